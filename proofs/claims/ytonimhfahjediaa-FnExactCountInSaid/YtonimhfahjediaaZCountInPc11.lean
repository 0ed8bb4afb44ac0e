/- Printed by a program of this session: what functions of the translation come to, each contract as it stands. No condition. -/
import Derived.Test.YtonimhfahjediaaZCountInSh
import Derived.Test.YtonimhfahjediaaZCountInWLastM
import Derived.Test.YtonimhfahjediaaZCountInPc1M
import Derived.Test.YtonimhfahjediaaZCountInPc4M
import Derived.Test.YtonimhfahjediaaZCountInPc3M
import Derived.Test.YtonimhfahjediaaZCountInPc6M
import Derived.Test.YtonimhfahjediaaZCountInPc7M
namespace Go.Proofs.Ytonimhfahjediaa.Pc
set_option maxHeartbeats 8000000
set_option maxRecDepth 100000
open Go.RowKit Go.Proofs.Ytonimhfahjediaa.Ext Go.Proofs.YtonimhfahjediaaW.PrintWords Go.Proofs.YtonimhfahjediaaW.PrintLast Go.Proofs.YtonimhfahjediaaW.PrintMore
attribute [local go_sem] max2_int min2_int max_two min_two max_three min_three max_four min_four   -- for this text's walks alone
set_option linter.unusedVariables false
set_option linter.unusedSimpArgs false

/-! ### spec_CountIn: function 11 -/
mutual
noncomputable def spec_CountIn.l0 : Nat → Int → Int → Int → Int → List ByteArray → List (S30) → Int → Int → List ByteArray → List (S30) → Option (Int)
 | 0, _, _, _, _, _, _, _, _, _, _ => none
 | k + 1, x5, x6, x356000, x356001, x356002, x356003, x357000, x357001, x357002, x357003 => if x6 < (x356003.length : Int) then (spec_CountIn.j1 k x5 x6 (x356000 == 4) x356000 x356001 x356002 x356003 x357000 x357001 x357002 x357003) else (spec_CountIn.j1 k x5 x6 false x356000 x356001 x356002 x356003 x357000 x357001 x357002 x357003)
noncomputable def spec_CountIn.j1 : Nat → Int → Int → Bool → Int → Int → List ByteArray → List (S30) → Int → Int → List ByteArray → List (S30) → Option (Int)
 | 0, _, _, _, _, _, _, _, _, _, _, _ => none
 | k + 1, x5, x6, x16, x356000, x356001, x356002, x356003, x357000, x357001, x357002, x357003 => if x16 = true then (if 0 ≤ x6 then (if x6 < (x356003.length : Int) then ((spec_SameBag.f k ((rd_T30 x356003 x6).f0) ((rd_T30 x356003 x6).f1) ((rd_T30 x356003 x6).f2) ((rd_T30 x356003 x6).f3) x357000 x357001 x357002 x357003).bind fun t358 => ((spec_l1Bit.f t358).bind fun t359 => (spec_CountIn.l0 k (wrap64 (x5 + t359)) (wrap64 (x6 + 1)) x356000 x356001 x356002 x356003 x357000 x357001 x357002 x357003))) else (none)) else (none)) else (some x5)
end
noncomputable def spec_CountIn.f (k : Nat) (a0_0 : Int) (a0_1 : Int) (l0_2 : List ByteArray) (l0_3 : List (S30)) (a1_0 : Int) (a1_1 : Int) (l1_2 : List ByteArray) (l1_3 : List (S30)) : Option (Int) := spec_CountIn.l0 k 0 0 a0_0 a0_1 l0_2 l0_3 a1_0 a1_1 l1_2 l1_3
def spec_CountIn.T5 : Bool × List (List Nat × List Nat) := (true, [([], []), ([], []), ([1], [1]), ([], []), ([2, 3], [2, 3]), ([4], [4]), ([], []), ([5, 6], [5, 6]), ([7, 7], [7]), ([0, 8], [0, 8]), ([9, 8, 0, 1, 2, 3, 4, 5, 6, 7, 8, 9], [0, 9])])
def spec_CountIn.B5 : List Nat := [0, 0, 2, 0, 14, 30, 0, 126, 254, 511, 1023]
theorem spec_CountIn.tab5 : rtab .any (opsOf Try.f11 5) = spec_CountIn.T5 := by kernel_rfl
theorem spec_CountIn.bits5 : waitsOk spec_CountIn.T5.2 spec_CountIn.B5 = true := by kernel_rfl
theorem spec_CountIn.calls (k : Nat) (a0_0 : Int) (a0_1 : Int) (A0_2 : Option Addr) (c0_2 : Nat) (l0_2 : List ByteArray) (A0_3 : Option Addr) (c0_3 : Nat) (l0_3 : List (S30)) (a1_0 : Int) (a1_1 : Int) (A1_2 : Option Addr) (c1_2 : Nat) (l1_2 : List ByteArray) (A1_3 : Option Addr) (c1_3 : Nat) (l1_3 : List (S30)) (r : Int) (w : World) (hr0_2 : Kd.C Kd.string w A0_2 l0_2.length l0_2) (hc0_2 : l0_2.length ≤ c0_2) (hr0_3 : Kd.C k30 w A0_3 l0_3.length l0_3) (hc0_3 : l0_3.length ≤ c0_3) (hr1_2 : Kd.C Kd.string w A1_2 l1_2.length l1_2) (hc1_2 : l1_2.length ≤ c1_2) (hr1_3 : Kd.C k30 w A1_3 l1_3.length l1_3) (hc1_3 : l1_3.length ≤ c1_3) (h : spec_CountIn.f k a0_0 a0_1 l0_2 l0_3 a1_0 a1_1 l1_2 l1_3 = some r) :
  Calls Try.prog 11 #[.agg #[.int .i64 a0_0, .int .i64 a0_1, .slice A0_2 l0_2.length c0_2, .slice A0_3 l0_3.length c0_3], .agg #[.int .i64 a1_0, .int .i64 a1_1, .slice A1_2 l1_2.length c1_2, .slice A1_3 l1_3.length c1_3]] w fun e w' => e = .returned (.int .i64 r) ∧ Below w.heap.size w w' := by
 have hu30 := Try.underlying30
 have HR0_2 := am hr0_2
 have HC0_2 := am hc0_2
 clear hr0_2 hc0_2
 have HR0_3 := am hr0_3
 have HC0_3 := am hc0_3
 clear hr0_3 hc0_3
 have HR1_2 := am hr1_2
 have HC1_2 := am hc1_2
 clear hr1_2 hc1_2
 have HR1_3 := am hr1_3
 have HC1_3 := am hc1_3
 clear hr1_3 hc1_3
 have HB := am (Below.refl w.heap.size w)
 have H : (spec_CountIn.l0 k 0 0 a0_0 a0_1 l0_2 l0_3 a1_0 a1_1 l1_2 l1_3) = some r := h
 clear h
 have H' := am H
 clear H
 go_enter Try.func11, Try.ntmps11
 go_wp2_with (first | ((with_reducible refine gate_dst (N := 2) rfl ?_); refine box_event ?hg (N := 2) ?hd (cs := #[.int .i64 a0_0, .int .i64 a0_1, .slice A0_2 l0_2.length c0_2, .slice A0_3 l0_3.length c0_3]) (t := 30) ?hr ?_; (case hd => rfl); (case hg => rfl); (case hr => exact hrw); intro gb355 hg w3 hbox hb; have n0_ := am (below_step blw hb); have n1_ := am (hbox); have n2_ := am ((by rw [hg]; exact (below_size blw) : w.heap.size ≤ gb355)); have n3_ := n2_; clear HB; revert n0_ n1_ n2_ n3_; intro HB BK355 GW355 GE355; clear hb hbox hg) | ((with_reducible refine gate_dst (N := 3) rfl ?_); refine box_event ?hg (N := 3) ?hd (cs := #[.int .i64 a1_0, .int .i64 a1_1, .slice A1_2 l1_2.length c1_2, .slice A1_3 l1_3.length c1_3]) (t := 30) ?hr ?_; (case hd => rfl); (case hg => rfl); (case hr => exact hrw); intro gb356 hg w4 hbox hb; have n0_ := am (blk_below (g := gb355) bkw hb); have n1_ := am (below_step blw hb); have n2_ := am (hbox); have n3_ := am ((by rw [hg]; exact (below_size blw) : w.heap.size ≤ gb356)); have n4_ := n3_; have n5_ := am ((by rw [hg]; exact Nat.ne_of_lt (blk_lt (g := gb355) bkw) : gb355 ≠ gb356)); have n6_ := am ((by rw [hg]; exact Nat.ne_of_gt (blk_lt (g := gb355) bkw) : gb356 ≠ gb355)); clear BK355; clear HB; revert n0_ n1_ n2_ n3_ n4_ n5_ n6_; intro BK355 HB BK356 GW356 GE356 NB355_356 NB356_355; clear hb hbox hg))
 go_loopg [5, 6] k (fun kq v5 v6 w' => ∃ (x5_1 : Int) (x6_1 : Int), v5 = .int .i64 x5_1 ∧ v6 = .int .i64 x6_1 ∧ Aside0 (spec_CountIn.l0 kq x5_1 x6_1 a0_0 a0_1 l0_2 l0_3 a1_0 a1_1 l1_2 l1_3 = some r) ∧ Aside0 (kq ≤ k) ∧ Aside0 (w'.heap[gb355]? = some (.cells #[.int .i64 a0_0, .int .i64 a0_1, (.slice A0_2 l0_2.length c0_2), (.slice A0_3 l0_3.length c0_3)] 30 (0, 0))) ∧ Aside0 (w'.heap[gb356]? = some (.cells #[.int .i64 a1_0, .int .i64 a1_1, (.slice A1_2 l1_2.length c1_2), (.slice A1_3 l1_3.length c1_3)] 30 (0, 0))) ∧ Aside0 (Below w.heap.size w w'))
 case atStart => exact ⟨(0), (0), rfs, rfs, H', ⟨Nat.le_refl _⟩, ⟨bkw⟩, ⟨bkw⟩, ⟨blw⟩⟩
 case round =>
  clear H'
  (try clear c1); (try clear p2)
  obtain ⟨x5_1, x6_1, rfl, rfl, HA, HK1, BK355, BK356, HB⟩ := hrel
  cases gk with
  | zero => exact absurd HA.out (by simp [spec_CountIn.l0])
  | succ k1 =>
   have H := HA.out
   clear HA
   simp only [spec_CountIn.l0] at H
   have HC5 := am H
   clear H
   go_upto_region 3 with (fail)
   go_cut [16] (fun v16 wc => ∃ (kq : Nat) (x16_4 : Bool), v16 = .bool x16_4 ∧ Aside0 (spec_CountIn.j1 kq x5_1 x6_1 x16_4 a0_0 a0_1 l0_2 l0_3 a1_0 a1_1 l1_2 l1_3 = some r) ∧ Aside0 (kq ≤ k1) ∧ Aside0 (wc.heap[gb355]? = some (.cells #[.int .i64 a0_0, .int .i64 a0_1, (.slice A0_2 l0_2.length c0_2), (.slice A0_3 l0_3.length c0_3)] 30 (0, 0))) ∧ Aside0 (wc.heap[gb356]? = some (.cells #[.int .i64 a1_0, .int .i64 a1_1, (.slice A1_2 l1_2.length c1_2), (.slice A1_3 l1_3.length c1_3)] 30 (0, 0))) ∧ Aside0 (Below w.heap.size w wc))
   case first =>
    have H := HC5.out
    clear HC5
    by_cases c6 : x6_1 < (l0_3.length : Int)
    ·rw [if_pos c6] at H
     have c6b0 : decide (x6_1 < (l0_3.length : Int)) = true := decide_eq_true c6
     clear c6
     (first | rw [c6b0] | (simp only [i64_w, i32_w]; rw [c6b0]) | skip)
     have H' := am H
     clear H
     have hnb7 := NB355_356.out
     have hnc7 := NB356_355.out
     obtain ⟨hcz8_0, hcz8_1, hcz8_2, hcz8_3⟩ := cls4 BK355.out
     obtain ⟨hfz8_0, hfz8_1, hfz8_2, hfz8_3⟩ := frz4 BK355.out
     go_wp2
     go_meet
     case rel => exact ⟨_, ((a0_0 == 4)), rfs, H', ⟨by have := HK1.out; first | omega | exact Nat.le_refl _⟩, ⟨bkw⟩, ⟨bkw⟩, ⟨blw⟩⟩
    rw [if_neg c6] at H
    have c6b0 : decide (x6_1 < (l0_3.length : Int)) = false := decide_eq_false c6
    clear c6
    (first | rw [c6b0] | (simp only [i64_w, i32_w]; rw [c6b0]) | skip)
    have H' := am H
    clear H
    have hnb9 := NB355_356.out
    have hnc9 := NB356_355.out
    obtain ⟨hcz10_0, hcz10_1, hcz10_2, hcz10_3⟩ := cls4 BK355.out
    obtain ⟨hfz10_0, hfz10_1, hfz10_2, hfz10_3⟩ := frz4 BK355.out
    go_wp2
    go_meet
    case rel => exact ⟨_, (false), rfs, H', ⟨by have := HK1.out; first | omega | exact Nat.le_refl _⟩, ⟨bkw⟩, ⟨bkw⟩, ⟨blw⟩⟩
   case rest =>
    clear HC5
    (try clear c1); (try clear p2 p2); (try clear c6); (try clear c6b0); (try clear c7); (try clear c9); (try clear hcz10_0 hcz10_1 hcz10_2 hcz10_3); (try clear hcz8_0 hcz8_1 hcz8_2 hcz8_3); (try clear hfz10_0 hfz10_1 hfz10_2 hfz10_3); (try clear hfz8_0 hfz8_1 hfz8_2 hfz8_3)
    obtain ⟨kq, x16_4, rfl, HA, HJ4, BK355, BK356, HB⟩ := hcut
    cases kq with
    | zero => exact absurd HA.out (by simp [spec_CountIn.j1])
    | succ kj4 =>
     have H := HA.out
     clear HA
     simp only [spec_CountIn.j1] at H
     by_cases c11 : x16_4 = true
     case neg =>
      replace c11 := Bool.eq_false_iff.mpr c11
      subst c11
      have H1 : (some x5_1) = some r := by rw [if_neg (show ¬ (false = true) by decide)] at H; exact H
      clear H
      have H := H1
      clear H1
      obtain rfl := Option.some.inj H
      go_wp2
      go_ret
      exact ⟨rfw, blw⟩
     subst c11
     have H1 : (if 0 ≤ x6_1 then (if x6_1 < (l0_3.length : Int) then ((spec_SameBag.f kj4 ((rd_T30 l0_3 x6_1).f0) ((rd_T30 l0_3 x6_1).f1) ((rd_T30 l0_3 x6_1).f2) ((rd_T30 l0_3 x6_1).f3) a1_0 a1_1 l1_2 l1_3).bind fun t358 => ((spec_l1Bit.f t358).bind fun t359 => (spec_CountIn.l0 kj4 (wrap64 (x5_1 + t359)) (wrap64 (x6_1 + 1)) a0_0 a0_1 l0_2 l0_3 a1_0 a1_1 l1_2 l1_3))) else (none)) else (none)) = some r := by rw [if_pos rfl] at H; exact H
     clear H
     have H := H1
     clear H1
     by_cases c12 : 0 ≤ x6_1
     case neg =>
      rw [if_neg c12] at H
      exact absurd H (by simp)
     rw [if_pos c12] at H
     have c12b0 : decide (0 ≤ x6_1) = true := decide_eq_true c12
     clear c12
     by_cases c13 : x6_1 < (l0_3.length : Int)
     case neg =>
      rw [if_neg c13] at H
      exact absurd H (by simp)
     rw [if_pos c13] at H
     have c13b0 : decide (x6_1 < (l0_3.length : Int)) = true := decide_eq_true c13
     clear c13
     replace H := Option.bind_eq_some_iff.mp H
     obtain ⟨t358, A140, H⟩ := H
     replace H : ((spec_l1Bit.f t358).bind fun t359 => (spec_CountIn.l0 kj4 (wrap64 (x5_1 + t359)) (wrap64 (x6_1 + 1)) a0_0 a0_1 l0_2 l0_3 a1_0 a1_1 l1_2 l1_3)) = some r := H
     have A14 := am A140
     clear A140
     replace H := Option.bind_eq_some_iff.mp H
     obtain ⟨t359, A150, H⟩ := H
     replace H : (spec_CountIn.l0 kj4 (wrap64 (x5_1 + t359)) (wrap64 (x6_1 + 1)) a0_0 a0_1 l0_2 l0_3 a1_0 a1_1 l1_2 l1_3) = some r := H
     have A15 := am A150
     clear A150
     have H' := am H
     clear H
     try go_wp2
     have n0_ := am (blk_drew BK355.out)
     have n1_ := am (blk_drew BK356.out)
     have n2_ := am (below_drew1 HB.out)
     clear BK355
     clear BK356
     clear HB
     revert n0_ n1_ n2_
     intro BK355 BK356 HB
     have p357 : 0 ≤ (x6_1 : Int) := of_decide_eq_true asw
     have q357 : x6_1 < (l0_3.length : Int) := of_decide_eq_true asw
     obtain ⟨ad357, A357_2, c357_2, A357_3, c357_3, e357, hx357_0, hx357_1, hx357_2, hx357_3, hl357_2, hi357_2, hl357_3, hi357_3⟩ := at_T30 HR0_3.out x6_1 p357 q357
     have hw357_3 := hx357_3
     have hw357_2 := hx357_2
     have hw357_1 := hx357_1
     have hw357_0 := hx357_0
     cases e357
     replace hx357_0 := upw HB.out hx357_0
     replace hx357_1 := upw HB.out hx357_1
     replace hx357_2 := upw HB.out hx357_2
     replace hx357_3 := upw HB.out hx357_3
     have HR357_2 := am hi357_2
     have HC357_2 := am hl357_2
     clear hi357_2 hl357_2
     have HR357_3 := am hi357_3
     have HC357_3 := am hl357_3
     clear hi357_3 hl357_3
     replace p357 := eq_true p357
     replace q357 := eq_true q357
     refine start_ (n := 11) (S := fun w' => w'.cell? ⟨gb355, 0, none⟩ = some (.int .i64 a0_0) ∧ w'.cell? ⟨gb355, 1, none⟩ = some (.int .i64 a0_1) ∧ w'.cell? ⟨gb355, 2, none⟩ = some (.slice A0_2 l0_2.length c0_2) ∧ w'.cell? ⟨gb355, 3, none⟩ = some (.slice (some ad357) l0_3.length c0_3) ∧ w'.cell? ⟨gb356, 0, none⟩ = some (.int .i64 a1_0) ∧ w'.cell? ⟨gb356, 1, none⟩ = some (.int .i64 a1_1) ∧ w'.cell? ⟨gb356, 2, none⟩ = some (.slice A1_2 l1_2.length c1_2) ∧ w'.cell? ⟨gb356, 3, none⟩ = some (.slice A1_3 l1_3.length c1_3) ∧ w'.cell? (ad357.add ((x6_1).toNat * 4)) = some (.int .i64 ((rd_T30 l0_3 x6_1).f0)) ∧ w'.cell? ⟨(ad357.add ((x6_1).toNat * 4)).block, (ad357.add ((x6_1).toNat * 4)).off + 1, none⟩ = some (.int .i64 ((rd_T30 l0_3 x6_1).f1)) ∧ w'.cell? ⟨(ad357.add ((x6_1).toNat * 4)).block, (ad357.add ((x6_1).toNat * 4)).off + 2, none⟩ = some (.slice A357_2 ((rd_T30 l0_3 x6_1).f2).length c357_2) ∧ w'.cell? ⟨(ad357.add ((x6_1).toNat * 4)).block, (ad357.add ((x6_1).toNat * 4)).off + 3, none⟩ = some (.slice A357_3 ((rd_T30 l0_3 x6_1).f3).length c357_3)) (ds := []) #[false,false,false,false,false,false,false,false,false,false,false] kr rfl rfl ⟨(blk_cell BK355.out 0).trans rfl, (blk_cell BK355.out 1).trans rfl, (blk_cell BK355.out 2).trans rfl, (blk_cell BK355.out 3).trans rfl, (blk_cell BK356.out 0).trans rfl, (blk_cell BK356.out 1).trans rfl, (blk_cell BK356.out 2).trans rfl, (blk_cell BK356.out 3).trans rfl, ((upw HB.out hw357_0 : _)), ((upw HB.out hw357_1 : _)), ((upw HB.out hw357_2 : _)), ((upw HB.out hw357_3 : _))⟩ (fun hHeld => ?_); refine with_tabW spec_CountIn.tab5 spec_CountIn.bits5 (fun HT_ HW_ => ?_)
     generalize wc.drew = w16 at BK355 BK356 HB HR357_2 HR357_3 hx357_0 hx357_1 hx357_2 hx357_3 hHeld ⊢
     refine pure_ (i := 0) (N := some 19) (v := ?_) (a' := ?_) (bm 11 1) rfl rfl (any_of HT_.out kr) qi (Or.inl ⟨by rfl, ?_⟩) ?_ ?_
     rotate_left
     ·intro w'
      go_simp
      with_reducible rfl
     rotate_left
     ·simp only [sx]
      rfl
     refine pure_ (i := 1) (N := some 20) (v := ?_) (a' := ?_) (bm 11 3) rfl rfl (any_of HT_.out kr) qi (Or.inl ⟨by rfl, ?_⟩) ?_ ?_
     rotate_left
     ·intro w'
      go_simp
      with_reducible rfl
     rotate_left
     ·simp only [sx]
      rfl
     refine pure_ (i := 3) (N := some 22) (v := ?_) (a' := ?_) (bm 11 11) rfl rfl (any_of HT_.out kr) qi (Or.inl ⟨by rfl, ?_⟩) ?_ ?_
     rotate_left
     ·intro w'
      go_simp
      with_reducible rfl
     rotate_left
     ·simp only [sx]
      rfl
     refine take_ (i := 2) (N := some 21) (v := ?_) (a' := ?_) (bm 11 15) rfl rfl (take_ofW HT_.out HW_.out kr) qi (Or.inl ⟨by rfl, ?_⟩) hHeld ?_ ?_
     rotate_left
     ·rintro w' ⟨s0, s1, s2, s3, s4, s5, s6, s7, s8, s9, s10, s11⟩
      go_simp
      with_reducible rfl
     rotate_left
     ·simp only [sx]
      rfl
     refine pure_ (i := 4) (N := some 23) (v := ?_) (a' := ?_) (bm 11 31) rfl rfl (any_of HT_.out kr) qi (Or.inl ⟨by rfl, ?_⟩) ?_ ?_
     rotate_left
     ·intro w'
      go_simp
      with_reducible rfl
     rotate_left
     ·simp only [sx]
      rfl
     refine take_ (i := 5) (N := some 24) (v := ?_) (a' := ?_) (bm 11 63) rfl rfl (take_ofW HT_.out HW_.out kr) qi (Or.inl ⟨by rfl, ?_⟩) hHeld ?_ ?_
     rotate_left
     ·rintro w' ⟨s0, s1, s2, s3, s4, s5, s6, s7, s8, s9, s10, s11⟩
      go_simp
      with_reducible rfl
     rotate_left
     ·simp only [sx]
      rfl
     refine take_ (i := 6) (N := some 25) (v := ?_) (a' := ?_) (bm 11 127) rfl rfl (take_ofW HT_.out HW_.out kr) qi (Or.inl ⟨by rfl, ?_⟩) hHeld ?_ ?_
     rotate_left
     ·rintro w' ⟨s0, s1, s2, s3, s4, s5, s6, s7, s8, s9, s10, s11⟩
      go_simp
      with_reducible rfl
     rotate_left
     ·simp only [sx]
      rfl
     refine one_ (i := 7) (N := some 26) (bm 11 255) rfl rfl (one_of HT_.out kr) (by decide) (fun K hK => ?_)
     refine goes_ Try.func7 kr rfl #[.agg #[.int .i64 ((rd_T30 l0_3 x6_1).f0), .int .i64 ((rd_T30 l0_3 x6_1).f1), .slice A357_2 ((rd_T30 l0_3 x6_1).f2).length c357_2, .slice A357_3 ((rd_T30 l0_3 x6_1).f3).length c357_3], .agg #[.int .i64 a1_0, .int .i64 a1_1, .slice A1_2 l1_2.length c1_2, .slice A1_3 l1_3.length c1_3]] (by rfl) rfl rfl mpw ?_
     with_reducible refine (spec_SameBag.calls kj4 ((rd_T30 l0_3 x6_1).f0) ((rd_T30 l0_3 x6_1).f1) _ _ ((rd_T30 l0_3 x6_1).f2) _ _ ((rd_T30 l0_3 x6_1).f3) a1_0 a1_1 _ _ l1_2 _ _ l1_3 t358 _ ?side1 ?side2 ?side3 ?side4 ?side5 ?side6 ?side7 ?side8 A14.out).mono ?_
     (case side1 => have X_ := HR357_2; exact cbl)
     (case side2 => exact HC357_2.out)
     (case side3 => have X_ := HR357_3; exact cbl)
     (case side4 => exact HC357_3.out)
     (case side5 => have X_ := HR1_2; exact cbl)
     (case side6 => exact HC1_2.out)
     (case side7 => have X_ := HR1_3; exact cbl)
     (case side8 => exact HC1_3.out)
     rintro e w17 ⟨rfl, hb⟩
     refine ⟨_, rfl, ?_⟩
     have n0_ := am (blk_below (g := gb355) bkw hb)
     have n1_ := am (blk_below (g := gb356) bkw hb)
     have n2_ := am (below_step blw hb)
     clear BK355
     clear BK356
     clear HB
     revert n0_ n1_ n2_
     intro BK355 BK356 HB
     (try clear hb)
     (try clear hb2)
     (try clear hk)
     (try clear hi)
     refine hK.out _ _ ⟨(blk_cell BK355.out 0).trans rfl, (blk_cell BK355.out 1).trans rfl, (blk_cell BK355.out 2).trans rfl, (blk_cell BK355.out 3).trans rfl, (blk_cell BK356.out 0).trans rfl, (blk_cell BK356.out 1).trans rfl, (blk_cell BK356.out 2).trans rfl, (blk_cell BK356.out 3).trans rfl, ((upw HB.out hw357_0 : _)), ((upw HB.out hw357_1 : _)), ((upw HB.out hw357_2 : _)), ((upw HB.out hw357_3 : _))⟩ (fun hHeld => ?_)
     clear hK K
     refine norm_ (a' := ?_) ?_ ?_
     rotate_left
     ·show Act.put _ (some 26) _ = _
      simp only [sx]
      rfl
     refine one_ (i := 8) (N := some 27) (bm 11 511) rfl rfl (one_of HT_.out kr) (by decide) (fun K hK => ?_)
     refine goes_ Try.func25 kr rfl #[.bool t358] (by rfl) rfl rfl mpw ?_
     with_reducible refine (spec_l1Bit.calls t358 t359 _ A15.out).mono ?_
     rintro e w' ⟨rfl, ⟨nd, rfl⟩⟩
     refine ⟨_, rfl, ?_⟩
     refine hK.out _ _ ⟨(blk_cell BK355.out 0).trans rfl, (blk_cell BK355.out 1).trans rfl, (blk_cell BK355.out 2).trans rfl, (blk_cell BK355.out 3).trans rfl, (blk_cell BK356.out 0).trans rfl, (blk_cell BK356.out 1).trans rfl, (blk_cell BK356.out 2).trans rfl, (blk_cell BK356.out 3).trans rfl, ((upw HB.out hw357_0 : _)), ((upw HB.out hw357_1 : _)), ((upw HB.out hw357_2 : _)), ((upw HB.out hw357_3 : _))⟩ (fun hHeld => ?_)
     clear hK K
     refine norm_ (a' := ?_) ?_ ?_
     rotate_left
     ·show Act.put _ (some 27) _ = _
      simp only [sx]
      rfl
     refine pure_ (i := 9) (N := some 28) (v := ?_) (a' := ?_) (bm 11 1023) rfl rfl (any_of HT_.out kr) qi (Or.inl ⟨by rfl, ?_⟩) ?_ ?_
     rotate_left
     ·intro w'
      go_simp
      with_reducible rfl
     rotate_left
     ·simp only [sx]
      rfl
     refine pure_ (i := 10) (N := some 5) (v := ?_) (a' := ?_) (bm 11 2047) rfl rfl (any_of HT_.out kr) qi (Or.inl ⟨by rfl, ?_⟩) ?_ ?_
     rotate_left
     ·intro w'
      go_simp
      with_reducible rfl
     rotate_left
     ·simp only [sx]
      rfl
     refine done_ (done_of HT_.out kr) ?_
     try go_wp2
     go_roundg kj4
     case measure => have := HK1.out; have := HJ4.out; omega
     case rel => exact ⟨(wrap64 (x5_1 + t359)), (wrap64 (x6_1 + 1)), rfs, rfs, H', ⟨by have := HK1.out; have := HJ4.out; omega⟩, ⟨bkw⟩, ⟨bkw⟩, ⟨blw⟩⟩

/-! ### impl_CountIn: function 12 -/
noncomputable def impl_CountIn.l0 : Nat → Int → List (S30) → Int → Int → Int → Int → List ByteArray → List (S30) → Int → Int → List ByteArray → List (S30) → Option (Int)
 | 0, _, _, _, _, _, _, _, _, _, _, _, _ => none
 | k + 1, x5, x9, x10, x11, x361000, x361001, x361002, x361003, x362000, x362001, x362002, x362003 => if x11 < x10 then (if 0 ≤ x11 then (if x11 < (x9.length : Int) then (if x361000 = 4 then ((impl_SameBag.f k ((rd_T30 x9 x11).f0) ((rd_T30 x9 x11).f1) ((rd_T30 x9 x11).f2) ((rd_T30 x9 x11).f3) x362000 x362001 x362002 x362003).bind fun t364 => (if t364 = true then (impl_CountIn.l0 k (wrap64 (x5 + 1)) x9 x10 (wrap64 (x11 + 1)) x361000 x361001 x361002 x361003 x362000 x362001 x362002 x362003) else (impl_CountIn.l0 k x5 x9 x10 (wrap64 (x11 + 1)) x361000 x361001 x361002 x361003 x362000 x362001 x362002 x362003))) else (impl_CountIn.l0 k x5 x9 x10 (wrap64 (x11 + 1)) x361000 x361001 x361002 x361003 x362000 x362001 x362002 x362003)) else (none)) else (none)) else (some x5)
noncomputable def impl_CountIn.f (k : Nat) (a0_0 : Int) (a0_1 : Int) (l0_2 : List ByteArray) (l0_3 : List (S30)) (a1_0 : Int) (a1_1 : Int) (l1_2 : List ByteArray) (l1_3 : List (S30)) : Option (Int) := impl_CountIn.l0 k 0 l0_3 (l0_3.length : Int) 0 a0_0 a0_1 l0_2 l0_3 a1_0 a1_1 l1_2 l1_3
theorem impl_CountIn.calls (k : Nat) (a0_0 : Int) (a0_1 : Int) (A0_2 : Option Addr) (c0_2 : Nat) (l0_2 : List ByteArray) (A0_3 : Option Addr) (c0_3 : Nat) (l0_3 : List (S30)) (a1_0 : Int) (a1_1 : Int) (A1_2 : Option Addr) (c1_2 : Nat) (l1_2 : List ByteArray) (A1_3 : Option Addr) (c1_3 : Nat) (l1_3 : List (S30)) (r : Int) (w : World) (hr0_2 : Kd.C Kd.string w A0_2 l0_2.length l0_2) (hc0_2 : l0_2.length ≤ c0_2) (hr0_3 : Kd.C k30 w A0_3 l0_3.length l0_3) (hc0_3 : l0_3.length ≤ c0_3) (hr1_2 : Kd.C Kd.string w A1_2 l1_2.length l1_2) (hc1_2 : l1_2.length ≤ c1_2) (hr1_3 : Kd.C k30 w A1_3 l1_3.length l1_3) (hc1_3 : l1_3.length ≤ c1_3) (h : impl_CountIn.f k a0_0 a0_1 l0_2 l0_3 a1_0 a1_1 l1_2 l1_3 = some r) :
  Calls Try.prog 12 #[.agg #[.int .i64 a0_0, .int .i64 a0_1, .slice A0_2 l0_2.length c0_2, .slice A0_3 l0_3.length c0_3], .agg #[.int .i64 a1_0, .int .i64 a1_1, .slice A1_2 l1_2.length c1_2, .slice A1_3 l1_3.length c1_3]] w fun e w' => e = .returned (.int .i64 r) ∧ Below w.heap.size w w' := by
 have hu30 := Try.underlying30
 have HR0_2 := am hr0_2
 have HC0_2 := am hc0_2
 clear hr0_2 hc0_2
 have HR0_3 := am hr0_3
 have HC0_3 := am hc0_3
 clear hr0_3 hc0_3
 have HR1_2 := am hr1_2
 have HC1_2 := am hc1_2
 clear hr1_2 hc1_2
 have HR1_3 := am hr1_3
 have HC1_3 := am hc1_3
 clear hr1_3 hc1_3
 have HB := am (Below.refl w.heap.size w)
 have H : (impl_CountIn.l0 k 0 l0_3 (l0_3.length : Int) 0 a0_0 a0_1 l0_2 l0_3 a1_0 a1_1 l1_2 l1_3) = some r := h
 clear h
 have H' := am H
 clear H
 go_enter Try.func12, Try.ntmps12
 go_wp2_with (first | ((with_reducible refine gate_dst (N := 2) rfl ?_); refine box_event ?hg (N := 2) ?hd (cs := #[.int .i64 a0_0, .int .i64 a0_1, .slice A0_2 l0_2.length c0_2, .slice A0_3 l0_3.length c0_3]) (t := 30) ?hr ?_; (case hd => rfl); (case hg => rfl); (case hr => exact hrw); intro gb360 hg w3 hbox hb; have n0_ := am (below_step blw hb); have n1_ := am (hbox); have n2_ := am ((by rw [hg]; exact (below_size blw) : w.heap.size ≤ gb360)); have n3_ := n2_; clear HB; revert n0_ n1_ n2_ n3_; intro HB BK360 GW360 GE360; clear hb hbox hg) | ((with_reducible refine gate_dst (N := 3) rfl ?_); refine box_event ?hg (N := 3) ?hd (cs := #[.int .i64 a1_0, .int .i64 a1_1, .slice A1_2 l1_2.length c1_2, .slice A1_3 l1_3.length c1_3]) (t := 30) ?hr ?_; (case hd => rfl); (case hg => rfl); (case hr => exact hrw); intro gb361 hg w4 hbox hb; have n0_ := am (blk_below (g := gb360) bkw hb); have n1_ := am (below_step blw hb); have n2_ := am (hbox); have n3_ := am ((by rw [hg]; exact (below_size blw) : w.heap.size ≤ gb361)); have n4_ := n3_; have n5_ := am ((by rw [hg]; exact Nat.ne_of_lt (blk_lt (g := gb360) bkw) : gb360 ≠ gb361)); have n6_ := am ((by rw [hg]; exact Nat.ne_of_gt (blk_lt (g := gb360) bkw) : gb361 ≠ gb360)); clear BK360; clear HB; revert n0_ n1_ n2_ n3_ n4_ n5_ n6_; intro BK360 HB BK361 GW361 GE361 NB360_361 NB361_360; clear hb hbox hg; have hnb5 := NB360_361.out; have hnc5 := NB361_360.out; obtain ⟨hcz6_0, hcz6_1, hcz6_2, hcz6_3⟩ := cls4 BK360.out; obtain ⟨hfz6_0, hfz6_1, hfz6_2, hfz6_3⟩ := frz4 BK360.out))
 go_loopg [5, 11] k (fun kq v5 v11 w' => ∃ (x5_1 : Int) (x11_1 : Int), v5 = .int .i64 x5_1 ∧ v11 = .int .i64 x11_1 ∧ Aside0 (impl_CountIn.l0 kq x5_1 l0_3 (l0_3.length : Int) x11_1 a0_0 a0_1 l0_2 l0_3 a1_0 a1_1 l1_2 l1_3 = some r) ∧ Aside0 (kq ≤ k) ∧ Aside0 (w'.heap[gb360]? = some (.cells #[.int .i64 a0_0, .int .i64 a0_1, (.slice A0_2 l0_2.length c0_2), (.slice A0_3 l0_3.length c0_3)] 30 (0, 0))) ∧ Aside0 (w'.heap[gb361]? = some (.cells #[.int .i64 a1_0, .int .i64 a1_1, (.slice A1_2 l1_2.length c1_2), (.slice A1_3 l1_3.length c1_3)] 30 (0, 0))) ∧ Aside0 (Below w.heap.size w w'))
 case atStart => exact ⟨(0), (0), rfs, rfs, H', ⟨Nat.le_refl _⟩, ⟨bkw⟩, ⟨bkw⟩, ⟨blw⟩⟩
 case round =>
  clear H'
  (try clear c1); (try clear p2); (try clear c5); (try clear hcz6_0 hcz6_1 hcz6_2 hcz6_3); (try clear hfz6_0 hfz6_1 hfz6_2 hfz6_3)
  obtain ⟨x5_1, x11_1, rfl, rfl, HA, HK1, BK360, BK361, HB⟩ := hrel
  cases gk with
  | zero => exact absurd HA.out (by simp [impl_CountIn.l0])
  | succ k1 =>
   have H := HA.out
   clear HA
   simp only [impl_CountIn.l0] at H
   by_cases c7 : x11_1 < (l0_3.length : Int)
   case neg =>
    rw [if_neg c7] at H
    have c7b0 : decide (x11_1 < (l0_3.length : Int)) = false := decide_eq_false c7
    clear c7
    obtain rfl := Option.some.inj H
    go_wp2
    go_ret
    exact ⟨rfw, blw⟩
   rw [if_pos c7] at H
   have c7b0 : decide (x11_1 < (l0_3.length : Int)) = true := decide_eq_true c7
   clear c7
   by_cases c8 : 0 ≤ x11_1
   case neg =>
    rw [if_neg c8] at H
    exact absurd H (by simp)
   rw [if_pos c8] at H
   have c8b0 : decide (0 ≤ x11_1) = true := decide_eq_true c8
   clear c8
   by_cases c9 : x11_1 < (l0_3.length : Int)
   case neg =>
    rw [if_neg c9] at H
    exact absurd H (by simp)
   rw [if_pos c9] at H
   have c9b0 : decide (x11_1 < (l0_3.length : Int)) = true := decide_eq_true c9
   clear c9
   by_cases c10 : a0_0 = 4
   case neg =>
    rw [if_neg c10] at H
    have c10b0 : (a0_0 == 4) = false := beq_eq_false_iff_ne.mpr c10
    have c10b1 : (a0_0 != 4) = true := bne_iff_ne.mpr c10
    have H' := am H
    clear H
    have p362 : 0 ≤ (x11_1 : Int) := of_decide_eq_true asw
    have q362 : x11_1 < (l0_3.length : Int) := of_decide_eq_true asw
    obtain ⟨ad362, A362_2, c362_2, A362_3, c362_3, e362, hx362_0, hx362_1, hx362_2, hx362_3, hl362_2, hi362_2, hl362_3, hi362_3⟩ := at_T30 HR0_3.out x11_1 p362 q362
    cases e362
    replace hx362_0 := upw HB.out hx362_0
    replace hx362_1 := upw HB.out hx362_1
    replace hx362_2 := upw HB.out hx362_2
    replace hx362_3 := upw HB.out hx362_3
    have HR362_2 := am hi362_2
    have HC362_2 := am hl362_2
    clear hi362_2 hl362_2
    have HR362_3 := am hi362_3
    have HC362_3 := am hl362_3
    clear hi362_3 hl362_3
    replace p362 := eq_true p362
    replace q362 := eq_true q362
    go_wp2_with (first | ((with_reducible refine gate_dst (N := 7) rfl ?_); refine box_event ?hg (N := 7) ?hd (cs := #[.int .i64 0, .int .i64 0, .slice none 0 0, .slice none 0 0]) (t := 30) ?hr ?_; (case hd => rfl); (case hg => rfl); (case hr => exact hrw); intro gb363 hg w22 hbox hb; have n0_ := am (blk_below (g := gb360) bkw hb); have n1_ := am (blk_below (g := gb361) bkw hb); have n2_ := am (below_step blw hb); have n3_ := am (hbox); have n4_ := am ((by rw [hg]; exact (below_size blw) : w.heap.size ≤ gb363)); have n5_ := n4_; have n6_ := am ((by rw [hg]; exact Nat.ne_of_lt (blk_lt (g := gb360) bkw) : gb360 ≠ gb363)); have n7_ := am ((by rw [hg]; exact Nat.ne_of_gt (blk_lt (g := gb360) bkw) : gb363 ≠ gb360)); have n8_ := am ((by rw [hg]; exact Nat.ne_of_lt (blk_lt (g := gb361) bkw) : gb361 ≠ gb363)); have n9_ := am ((by rw [hg]; exact Nat.ne_of_gt (blk_lt (g := gb361) bkw) : gb363 ≠ gb361)); clear BK360; clear BK361; clear HB; revert n0_ n1_ n2_ n3_ n4_ n5_ n6_ n7_ n8_ n9_; intro BK360 BK361 HB BK363 GW363 GE363 NB360_363 NB363_360 NB361_363 NB363_361; clear hb hbox hg; have hnb23 := NB363_360.out; have hnc23 := NB360_363.out; have hnb24 := NB363_361.out; have hnc24 := NB361_363.out; obtain ⟨hcz25_0, hcz25_1, hcz25_2, hcz25_3⟩ := cls4 BK363.out; obtain ⟨hfz25_0, hfz25_1, hfz25_2, hfz25_3⟩ := frz4 BK363.out; have hnb26 := NB360_361.out; have hnc26 := NB361_360.out; obtain ⟨hcz27_0, hcz27_1, hcz27_2, hcz27_3⟩ := cls4 BK360.out; obtain ⟨hfz27_0, hfz27_1, hfz27_2, hfz27_3⟩ := frz4 BK360.out))
    go_roundg k1
    case measure => have := HK1.out; omega
    case rel => exact ⟨(x5_1), (wrap64 (x11_1 + 1)), rfs, rfs, H', ⟨by have := HK1.out; omega⟩, ⟨by (with_reducible repeat (first | refine blk_drewN ?_ _ | refine blk_drew ?_ | refine blk_alloc ?_ _)); refine blk_far ?_ NB360_363.out _; (with_reducible repeat (first | refine blk_drewN ?_ _ | refine blk_drew ?_ | refine blk_alloc ?_ _)); refine blk_far ?_ NB360_363.out _; (with_reducible repeat (first | refine blk_drewN ?_ _ | refine blk_drew ?_ | refine blk_alloc ?_ _)); refine blk_far ?_ NB360_363.out _; (with_reducible repeat (first | refine blk_drewN ?_ _ | refine blk_drew ?_ | refine blk_alloc ?_ _)); refine blk_far ?_ NB360_363.out _; (with_reducible repeat (first | refine blk_drewN ?_ _ | refine blk_drew ?_ | refine blk_alloc ?_ _)); exact BK360.out⟩, ⟨by (with_reducible repeat (first | refine blk_drewN ?_ _ | refine blk_drew ?_ | refine blk_alloc ?_ _)); refine blk_far ?_ NB361_363.out _; (with_reducible repeat (first | refine blk_drewN ?_ _ | refine blk_drew ?_ | refine blk_alloc ?_ _)); refine blk_far ?_ NB361_363.out _; (with_reducible repeat (first | refine blk_drewN ?_ _ | refine blk_drew ?_ | refine blk_alloc ?_ _)); refine blk_far ?_ NB361_363.out _; (with_reducible repeat (first | refine blk_drewN ?_ _ | refine blk_drew ?_ | refine blk_alloc ?_ _)); refine blk_far ?_ NB361_363.out _; (with_reducible repeat (first | refine blk_drewN ?_ _ | refine blk_drew ?_ | refine blk_alloc ?_ _)); exact BK361.out⟩, ⟨blw⟩⟩
   rw [if_pos c10] at H
   have c10b0 : (a0_0 == 4) = true := beq_iff_eq.mpr c10
   have c10b1 : (a0_0 != 4) = false := bne_eq_false_iff_eq.mpr c10
   clear c10
   replace H := Option.bind_eq_some_iff.mp H
   obtain ⟨t364, A110, H⟩ := H
   replace H : (if t364 = true then (impl_CountIn.l0 k1 (wrap64 (x5_1 + 1)) l0_3 (l0_3.length : Int) (wrap64 (x11_1 + 1)) a0_0 a0_1 l0_2 l0_3 a1_0 a1_1 l1_2 l1_3) else (impl_CountIn.l0 k1 x5_1 l0_3 (l0_3.length : Int) (wrap64 (x11_1 + 1)) a0_0 a0_1 l0_2 l0_3 a1_0 a1_1 l1_2 l1_3)) = some r := H
   have A11 := am A110
   clear A110
   have HC12 := am H
   clear H
   have p362 : 0 ≤ (x11_1 : Int) := of_decide_eq_true asw
   have q362 : x11_1 < (l0_3.length : Int) := of_decide_eq_true asw
   obtain ⟨ad362, A362_2, c362_2, A362_3, c362_3, e362, hx362_0, hx362_1, hx362_2, hx362_3, hl362_2, hi362_2, hl362_3, hi362_3⟩ := at_T30 HR0_3.out x11_1 p362 q362
   cases e362
   replace hx362_0 := upw HB.out hx362_0
   replace hx362_1 := upw HB.out hx362_1
   replace hx362_2 := upw HB.out hx362_2
   replace hx362_3 := upw HB.out hx362_3
   have HR362_2 := am hi362_2
   have HC362_2 := am hl362_2
   clear hi362_2 hl362_2
   have HR362_3 := am hi362_3
   have HC362_3 := am hl362_3
   clear hi362_3 hl362_3
   replace p362 := eq_true p362
   replace q362 := eq_true q362
   go_upto_if 22 with (first | ((with_reducible refine gate_dst (N := 7) rfl ?_); refine box_event ?hg (N := 7) ?hd (cs := #[.int .i64 0, .int .i64 0, .slice none 0 0, .slice none 0 0]) (t := 30) ?hr ?_; (case hd => rfl); (case hg => rfl); (case hr => exact hrw); intro gb363 hg w13 hbox hb; have n0_ := am (blk_below (g := gb360) bkw hb); have n1_ := am (blk_below (g := gb361) bkw hb); have n2_ := am (below_step blw hb); have n3_ := am (hbox); have n4_ := am ((by rw [hg]; exact (below_size blw) : w.heap.size ≤ gb363)); have n5_ := n4_; have n6_ := am ((by rw [hg]; exact Nat.ne_of_lt (blk_lt (g := gb360) bkw) : gb360 ≠ gb363)); have n7_ := am ((by rw [hg]; exact Nat.ne_of_gt (blk_lt (g := gb360) bkw) : gb363 ≠ gb360)); have n8_ := am ((by rw [hg]; exact Nat.ne_of_lt (blk_lt (g := gb361) bkw) : gb361 ≠ gb363)); have n9_ := am ((by rw [hg]; exact Nat.ne_of_gt (blk_lt (g := gb361) bkw) : gb363 ≠ gb361)); clear BK360; clear BK361; clear HB; revert n0_ n1_ n2_ n3_ n4_ n5_ n6_ n7_ n8_ n9_; intro BK360 BK361 HB BK363 GW363 GE363 NB360_363 NB363_360 NB361_363 NB363_361; clear hb hbox hg; have hnb14 := NB363_360.out; have hnc14 := NB360_363.out; have hnb15 := NB363_361.out; have hnc15 := NB361_363.out; obtain ⟨hcz16_0, hcz16_1, hcz16_2, hcz16_3⟩ := cls4 BK363.out; obtain ⟨hfz16_0, hfz16_1, hfz16_2, hfz16_3⟩ := frz4 BK363.out; have hnb17 := NB360_361.out; have hnc17 := NB361_360.out; obtain ⟨hcz18_0, hcz18_1, hcz18_2, hcz18_3⟩ := cls4 BK360.out; obtain ⟨hfz18_0, hfz18_1, hfz18_2, hfz18_3⟩ := frz4 BK360.out; obtain ⟨hcz19_0, hcz19_1, hcz19_2, hcz19_3⟩ := cls4 BK361.out; obtain ⟨hfz19_0, hfz19_1, hfz19_2, hfz19_3⟩ := frz4 BK361.out) | (go_at_call 9; (with_reducible refine (impl_SameBag.calls k1 ((rd_T30 l0_3 x11_1).f0) ((rd_T30 l0_3 x11_1).f1) _ _ ((rd_T30 l0_3 x11_1).f2) _ _ ((rd_T30 l0_3 x11_1).f3) a1_0 a1_1 _ _ l1_2 _ _ l1_3 t364 _ ?side1 ?side2 ?side3 ?side4 ?side5 ?side6 ?side7 ?side8 A11.out).mono ?_); (case side1 => exact Kd.C_below HR362_2.out blw); (case side2 => exact HC362_2.out); (case side3 => exact Kd.C_below HR362_3.out blw); (case side4 => exact HC362_3.out); (case side5 => exact Kd.C_below HR1_2.out blw); (case side6 => exact HC1_2.out); (case side7 => exact Kd.C_below HR1_3.out blw); (case side8 => exact HC1_3.out); rintro e w20 ⟨rfl, hb⟩; have n0_ := am (blk_below (g := gb360) (o := .cells #[.int .i64 a0_0, .int .i64 a0_1, .slice A0_2 l0_2.length c0_2, .slice (some ad362) l0_3.length c0_3] 30 (0, 0)) (by (with_reducible repeat (first | refine blk_drewN ?_ _ | refine blk_drew ?_ | refine blk_alloc ?_ _)); refine blk_far ?_ NB360_363.out _; (with_reducible repeat (first | refine blk_drewN ?_ _ | refine blk_drew ?_ | refine blk_alloc ?_ _)); refine blk_far ?_ NB360_363.out _; (with_reducible repeat (first | refine blk_drewN ?_ _ | refine blk_drew ?_ | refine blk_alloc ?_ _)); refine blk_far ?_ NB360_363.out _; (with_reducible repeat (first | refine blk_drewN ?_ _ | refine blk_drew ?_ | refine blk_alloc ?_ _)); refine blk_far ?_ NB360_363.out _; (with_reducible repeat (first | refine blk_drewN ?_ _ | refine blk_drew ?_ | refine blk_alloc ?_ _)); exact BK360.out) hb); have n1_ := am (blk_below (g := gb361) (o := .cells #[.int .i64 a1_0, .int .i64 a1_1, .slice A1_2 l1_2.length c1_2, .slice A1_3 l1_3.length c1_3] 30 (0, 0)) (by (with_reducible repeat (first | refine blk_drewN ?_ _ | refine blk_drew ?_ | refine blk_alloc ?_ _)); refine blk_far ?_ NB361_363.out _; (with_reducible repeat (first | refine blk_drewN ?_ _ | refine blk_drew ?_ | refine blk_alloc ?_ _)); refine blk_far ?_ NB361_363.out _; (with_reducible repeat (first | refine blk_drewN ?_ _ | refine blk_drew ?_ | refine blk_alloc ?_ _)); refine blk_far ?_ NB361_363.out _; (with_reducible repeat (first | refine blk_drewN ?_ _ | refine blk_drew ?_ | refine blk_alloc ?_ _)); refine blk_far ?_ NB361_363.out _; (with_reducible repeat (first | refine blk_drewN ?_ _ | refine blk_drew ?_ | refine blk_alloc ?_ _)); exact BK361.out) hb); have n2_ := am (blk_below (g := gb363) (o := .cells #[.int .i64 ((rd_T30 l0_3 x11_1).f0), .int .i64 ((rd_T30 l0_3 x11_1).f1), .slice A362_2 ((rd_T30 l0_3 x11_1).f2).length c362_2, .slice A362_3 ((rd_T30 l0_3 x11_1).f3).length c362_3] 30 (0, 0)) (by (with_reducible repeat (first | refine blk_drewN ?_ _ | refine blk_drew ?_ | refine blk_alloc ?_ _)); refine blk_put (cs := #[.int .i64 ((rd_T30 l0_3 x11_1).f0), .int .i64 ((rd_T30 l0_3 x11_1).f1), .slice A362_2 ((rd_T30 l0_3 x11_1).f2).length c362_2, .slice none 0 0]) ?_ 3 _ rfl; (with_reducible repeat (first | refine blk_drewN ?_ _ | refine blk_drew ?_ | refine blk_alloc ?_ _)); refine blk_put (cs := #[.int .i64 ((rd_T30 l0_3 x11_1).f0), .int .i64 ((rd_T30 l0_3 x11_1).f1), .slice none 0 0, .slice none 0 0]) ?_ 2 _ rfl; (with_reducible repeat (first | refine blk_drewN ?_ _ | refine blk_drew ?_ | refine blk_alloc ?_ _)); refine blk_put (cs := #[.int .i64 ((rd_T30 l0_3 x11_1).f0), .int .i64 0, .slice none 0 0, .slice none 0 0]) ?_ 1 _ rfl; (with_reducible repeat (first | refine blk_drewN ?_ _ | refine blk_drew ?_ | refine blk_alloc ?_ _)); refine blk_put (cs := #[.int .i64 0, .int .i64 0, .slice none 0 0, .slice none 0 0]) ?_ 0 _ rfl; (with_reducible repeat (first | refine blk_drewN ?_ _ | refine blk_drew ?_ | refine blk_alloc ?_ _)); exact BK363.out) hb); have n3_ := am (below_step blw hb); clear BK360; clear BK361; clear BK363; clear HB; revert n0_ n1_ n2_ n3_; intro BK360 BK361 BK363 HB; (try clear hb); (try clear hb2); (try clear hk); (try clear hi)))
   (try clear hcz16_0 hcz16_1 hcz16_2 hcz16_3); (try clear hcz18_0 hcz18_1 hcz18_2 hcz18_3); (try clear hcz19_0 hcz19_1 hcz19_2 hcz19_3); (try clear hcz6_0 hcz6_1 hcz6_2 hcz6_3); (try clear hfz16_0 hfz16_1 hfz16_2 hfz16_3); (try clear hfz18_0 hfz18_1 hfz18_2 hfz18_3); (try clear hfz19_0 hfz19_1 hfz19_2 hfz19_3); (try clear hfz6_0 hfz6_1 hfz6_2 hfz6_3); (try clear hx362_0 hx362_1 hx362_2 hx362_3)
   have H := HC12.out
   clear HC12
   by_cases c21 : t364 = true
   ·subst c21
    have H1 : (impl_CountIn.l0 k1 (wrap64 (x5_1 + 1)) l0_3 (l0_3.length : Int) (wrap64 (x11_1 + 1)) a0_0 a0_1 l0_2 l0_3 a1_0 a1_1 l1_2 l1_3) = some r := by rw [if_pos rfl] at H; exact H
    clear H
    have H := H1
    clear H1
    have H' := am H
    clear H
    go_wp2
    go_roundg k1
    case measure => have := HK1.out; omega
    case rel => exact ⟨(wrap64 (x5_1 + 1)), (wrap64 (x11_1 + 1)), rfs, rfs, H', ⟨by have := HK1.out; omega⟩, ⟨bkw⟩, ⟨bkw⟩, ⟨blw⟩⟩
   replace c21 := Bool.eq_false_iff.mpr c21
   subst c21
   have H1 : (impl_CountIn.l0 k1 x5_1 l0_3 (l0_3.length : Int) (wrap64 (x11_1 + 1)) a0_0 a0_1 l0_2 l0_3 a1_0 a1_1 l1_2 l1_3) = some r := by rw [if_neg (show ¬ (false = true) by decide)] at H; exact H
   clear H
   have H := H1
   clear H1
   have H' := am H
   clear H
   go_wp2
   go_roundg k1
   case measure => have := HK1.out; omega
   case rel => exact ⟨(x5_1), (wrap64 (x11_1 + 1)), rfs, rfs, H', ⟨by have := HK1.out; omega⟩, ⟨bkw⟩, ⟨bkw⟩, ⟨blw⟩⟩

end Go.Proofs.Ytonimhfahjediaa.Pc
