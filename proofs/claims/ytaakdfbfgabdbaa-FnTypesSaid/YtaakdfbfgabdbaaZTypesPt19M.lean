/- Printed by a program of this session: what functions of the translation come to, each contract as it stands. No condition. -/
import Derived.Test.YtaakdfbfgabdbaaZTypesSh
import Derived.Test.YtaakdfbfgabdbaaZTypesExtM
import Derived.Test.YtaakdfbfgabdbaaZTypesPtDrawT3M
import Derived.Test.YtaakdfbfgabdbaaZTypesPt6M
section
namespace Go.Proofs.Ytaakdfbfgabdbaa.Pt
open Go.RowKit Go.Proofs.Ytaakdfbfgabdbaa.Ext Go.Proofs.YtaakdfbfgabdbaaW.PrintWords Go.Proofs.YtaakdfbfgabdbaaW.PrintLast Go.Proofs.YtaakdfbfgabdbaaW.PrintMore
attribute [local go_sem] max2_int min2_int max_two min_two max_three min_three max_four min_four   -- for this text's walks alone
set_option linter.unusedVariables false
set_option linter.unusedSimpArgs false

/-! ### spec_EqualType: function 21 -/
mutual
def spec_EqualType.j0 : Nat → Bool → Int → List ByteArray → List (S27) → Int → List ByteArray → List (S27) → Option (Bool)
 | 0, _, _, _, _, _, _, _ => none
 | k + 1, x27, x584000, x584001, x584002, x585000, x585001, x585002 => if x27 = true then (some false) else (spec_EqualType.l0 k 0 x584000 x584001 x584002 x585000 x585001 x585002)
def spec_EqualType.l0 : Nat → Int → Int → List ByteArray → List (S27) → Int → List ByteArray → List (S27) → Option (Bool)
 | 0, _, _, _, _, _, _, _ => none
 | k + 1, x5, x584000, x584001, x584002, x585000, x585001, x585002 => if x5 < (x584002.length : Int) then (if 0 ≤ x5 then (if x5 < (x585002.length : Int) then ((spec_EqualType.f k ((rd_T27 x584002 x5).f0) ((rd_T27 x584002 x5).f1) ((rd_T27 x584002 x5).f2) ((rd_T27 x585002 x5).f0) ((rd_T27 x585002 x5).f1) ((rd_T27 x585002 x5).f2)).bind fun t588 => (if t588 = true then (spec_EqualType.l0 k (wrap64 (x5 + 1)) x584000 x584001 x584002 x585000 x585001 x585002) else (some false))) else (none)) else (none)) else (some true)
def spec_EqualType.f : Nat → Int → List ByteArray → List (S27) → Int → List ByteArray → List (S27) → Option (Bool)
 | 0, _, _, _, _, _, _ => none
 | k + 1, a0_0, l0_1, l0_2, a1_0, l1_1, l1_2 => if a0_0 = a1_0 then ((spec_l3Texts.f k l0_1 l1_1).bind fun t585 => (if t585 = true then (spec_EqualType.j0 k ((l0_2.length : Int) != (l1_2.length : Int)) a0_0 l0_1 l0_2 a1_0 l1_1 l1_2) else (spec_EqualType.j0 k true a0_0 l0_1 l0_2 a1_0 l1_1 l1_2))) else (spec_EqualType.j0 k true a0_0 l0_1 l0_2 a1_0 l1_1 l1_2)
end
def spec_EqualType.T6 : Bool × List (List Nat × List Nat) := (true, [([], []), ([0], [0]), ([], []), ([1, 2], [1, 2]), ([3], [3]), ([], []), ([5], [5]), ([], []), ([6, 7], [6, 7]), ([8], [8]), ([4, 9], [4, 9]), ([10], [10])])
def spec_EqualType.B6 : List Nat := [0, 1, 0, 7, 15, 0, 32, 0, 224, 480, 1023, 2047]
theorem spec_EqualType.tab6 : rtab .any (opsOf Try.f21 6) = spec_EqualType.T6 := by kernel_rfl
theorem spec_EqualType.bits6 : waitsOk spec_EqualType.T6.2 spec_EqualType.B6 = true := by kernel_rfl
set_option maxHeartbeats 8000000 in
set_option maxRecDepth 100000 in
theorem spec_EqualType.calls (k : Nat) : ∀ (a0_0 : Int) (A0_1 : Option Addr) (c0_1 : Nat) (l0_1 : List ByteArray) (A0_2 : Option Addr) (c0_2 : Nat) (l0_2 : List (S27)) (a1_0 : Int) (A1_1 : Option Addr) (c1_1 : Nat) (l1_1 : List ByteArray) (A1_2 : Option Addr) (c1_2 : Nat) (l1_2 : List (S27)) (r : Bool) (w : World) (hr0_1 : Kd.C Kd.string w A0_1 l0_1.length l0_1) (hc0_1 : l0_1.length ≤ c0_1) (hr0_2 : Kd.C k27 w A0_2 l0_2.length l0_2) (hc0_2 : l0_2.length ≤ c0_2) (hr1_1 : Kd.C Kd.string w A1_1 l1_1.length l1_1) (hc1_1 : l1_1.length ≤ c1_1) (hr1_2 : Kd.C k27 w A1_2 l1_2.length l1_2) (hc1_2 : l1_2.length ≤ c1_2) (h : spec_EqualType.f k a0_0 l0_1 l0_2 a1_0 l1_1 l1_2 = some r),
  Calls Try.prog 21 #[.agg #[.int .i64 a0_0, .slice A0_1 l0_1.length c0_1, .slice A0_2 l0_2.length c0_2], .agg #[.int .i64 a1_0, .slice A1_1 l1_1.length c1_1, .slice A1_2 l1_2.length c1_2]] w fun e w' => e = .returned (.bool r) ∧ Below w.heap.size w w' := by
 induction k using Nat.strongRecOn with
 | _ k ih =>
 intro a0_0 A0_1 c0_1 l0_1 A0_2 c0_2 l0_2 a1_0 A1_1 c1_1 l1_1 A1_2 c1_2 l1_2 r w hr0_1 hc0_1 hr0_2 hc0_2 hr1_1 hc1_1 hr1_2 hc1_2 h
 cases k with
 | zero => exact absurd h (by simp [spec_EqualType.f])
 | succ k =>
 simp only [spec_EqualType.f] at h
 have hu27 := Try.underlying27
 have HR0_1 := Aside0.mk hr0_1
 have HC0_1 := Aside0.mk hc0_1
 clear hr0_1 hc0_1
 have HR0_2 := Aside0.mk hr0_2
 have HC0_2 := Aside0.mk hc0_2
 clear hr0_2 hc0_2
 have HR1_1 := Aside0.mk hr1_1
 have HC1_1 := Aside0.mk hc1_1
 clear hr1_1 hc1_1
 have HR1_2 := Aside0.mk hr1_2
 have HC1_2 := Aside0.mk hc1_2
 clear hr1_2 hc1_2
 have HB := Aside0.mk (Below.refl w.heap.size w)
 have H : (if a0_0 = a1_0 then ((spec_l3Texts.f k l0_1 l1_1).bind fun t585 => (if t585 = true then (spec_EqualType.j0 k ((l0_2.length : Int) != (l1_2.length : Int)) a0_0 l0_1 l0_2 a1_0 l1_1 l1_2) else (spec_EqualType.j0 k true a0_0 l0_1 l0_2 a1_0 l1_1 l1_2))) else (spec_EqualType.j0 k true a0_0 l0_1 l0_2 a1_0 l1_1 l1_2)) = some r := h
 clear h
 have HC3 := Aside0.mk H
 clear H
 go_enter Try.func21, Try.ntmps21
 go_upto_region 1 with (first | ((with_reducible refine gate_dst (N := 2) rfl ?_); (try (refine gate_guard (by rfl) ?_; dsimp only)); refine box_event ?hg (N := 2) ?hd (cs := #[.int .i64 a0_0, .slice A0_1 l0_1.length c0_1, .slice A0_2 l0_2.length c0_2]) (t := 27) ?hr ?_; (case hd => rfl); (case hg => rfl); (case hr => exact hrw); intro gb583 hg w4 hbox hb; have n0_ := Aside0.mk (below_step blw hb); have n1_ := Aside0.mk (hbox); have n2_ := Aside0.mk ((by rw [hg]; exact (below_size blw) : w.heap.size ≤ gb583)); have n3_ := n2_; clear HB; revert n0_ n1_ n2_ n3_; intro HB BK583 GW583 GE583; clear hb hbox hg) | ((with_reducible refine gate_dst (N := 3) rfl ?_); (try (refine gate_guard (by rfl) ?_; dsimp only)); refine box_event ?hg (N := 3) ?hd (cs := #[.int .i64 a1_0, .slice A1_1 l1_1.length c1_1, .slice A1_2 l1_2.length c1_2]) (t := 27) ?hr ?_; (case hd => rfl); (case hg => rfl); (case hr => exact hrw); intro gb584 hg w5 hbox hb; have n0_ := Aside0.mk (blk_below (g := gb583) (o := .cells #[.int .i64 a0_0, .slice A0_1 l0_1.length c0_1, .slice A0_2 l0_2.length c0_2] 27 (0, 0)) bkw hb); have n1_ := Aside0.mk (below_step blw hb); have n2_ := Aside0.mk (hbox); have n3_ := Aside0.mk ((by rw [hg]; exact (below_size blw) : w.heap.size ≤ gb584)); have n4_ := n3_; have n5_ := Aside0.mk ((by rw [hg]; exact Nat.ne_of_lt (blk_lt (g := gb583) (o := .cells #[.int .i64 a0_0, .slice A0_1 l0_1.length c0_1, .slice A0_2 l0_2.length c0_2] 27 (0, 0)) bkw) : gb583 ≠ gb584)); have n6_ := Aside0.mk ((by rw [hg]; exact Nat.ne_of_gt (blk_lt (g := gb583) (o := .cells #[.int .i64 a0_0, .slice A0_1 l0_1.length c0_1, .slice A0_2 l0_2.length c0_2] 27 (0, 0)) bkw) : gb584 ≠ gb583)); clear BK583; clear HB; revert n0_ n1_ n2_ n3_ n4_ n5_ n6_; intro BK583 HB BK584 GW584 GE584 NB583_584 NB584_583; clear hb hbox hg))
 (try simp only [Act.put, List.setIfInBounds_toArray, List.set_cons_zero, List.set_cons_succ])
 go_cut [27] (fun v27 wc => ∃ (kq : Nat) (x27_2 : Bool), v27 = .bool x27_2 ∧ Aside0 (spec_EqualType.j0 kq x27_2 a0_0 l0_1 l0_2 a1_0 l1_1 l1_2 = some r) ∧ Aside0 (kq ≤ k) ∧ Aside0 (wc.heap[gb583]? = some (.cells #[.int .i64 a0_0, (.slice A0_1 l0_1.length c0_1), (.slice A0_2 l0_2.length c0_2)] 27 (0, 0))) ∧ Aside0 (wc.heap[gb584]? = some (.cells #[.int .i64 a1_0, (.slice A1_1 l1_1.length c1_1), (.slice A1_2 l1_2.length c1_2)] 27 (0, 0))) ∧ Aside0 (Below w.heap.size w wc))
 case first =>
  have H := HC3.out
  clear HC3
  by_cases c6 : a0_0 = a1_0
  case neg =>
   rw [if_neg c6] at H
   have c6b0 : (a0_0 == a1_0) = false := beq_eq_false_iff_ne.mpr c6
   have c6b1 : (a0_0 != a1_0) = true := bne_iff_ne.mpr c6
   (first | rw [c6b0] | (simp only [i64_w, i32_w]; rw [c6b0]) | (rw [c6b1]; (try simp only [Bool.not_true, Bool.not_false])) | skip)
   have H' := Aside0.mk H
   clear H
   have hnb15 := NB583_584.out
   have hnc15 := NB584_583.out
   obtain ⟨hcz16_0, hcz16_1, hcz16_2⟩ := cls3 BK583.out
   obtain ⟨hfz16_0, hfz16_1, hfz16_2⟩ := frz3 BK583.out
   obtain ⟨hcz17_0, hcz17_1, hcz17_2⟩ := cls3 BK584.out
   obtain ⟨hfz17_0, hfz17_1, hfz17_2⟩ := frz3 BK584.out
   go_wp2
   go_meet
   case rel => exact ⟨_, (true), rfs, H', ⟨by first | omega | exact Nat.le_refl _⟩, ⟨bkw⟩, ⟨bkw⟩, ⟨blw⟩⟩
  rw [if_pos c6] at H
  have c6b0 : (a0_0 == a1_0) = true := beq_iff_eq.mpr c6
  have c6b1 : (a0_0 != a1_0) = false := bne_eq_false_iff_eq.mpr c6
  clear c6
  (first | rw [c6b0] | (simp only [i64_w, i32_w]; rw [c6b0]) | (rw [c6b1]; (try simp only [Bool.not_true, Bool.not_false])) | skip)
  replace H := Option.bind_eq_some_iff.mp H
  obtain ⟨t585, A70, H⟩ := H
  replace H : (if t585 = true then (spec_EqualType.j0 k ((l0_2.length : Int) != (l1_2.length : Int)) a0_0 l0_1 l0_2 a1_0 l1_1 l1_2) else (spec_EqualType.j0 k true a0_0 l0_1 l0_2 a1_0 l1_1 l1_2)) = some r := H
  have A7 := Aside0.mk A70
  clear A70
  by_cases c8 : t585 = true
  case neg =>
   replace c8 := Bool.eq_false_iff.mpr c8
   subst c8
   have H1 : (spec_EqualType.j0 k true a0_0 l0_1 l0_2 a1_0 l1_1 l1_2) = some r := by rw [if_neg (show ¬ (false = true) by decide)] at H; exact H
   clear H
   have H := H1
   clear H1
   have H' := Aside0.mk H
   clear H
   have hnb12 := NB583_584.out
   have hnc12 := NB584_583.out
   obtain ⟨hcz13_0, hcz13_1, hcz13_2⟩ := cls3 BK583.out
   obtain ⟨hfz13_0, hfz13_1, hfz13_2⟩ := frz3 BK583.out
   obtain ⟨hcz14_0, hcz14_1, hcz14_2⟩ := cls3 BK584.out
   obtain ⟨hfz14_0, hfz14_1, hfz14_2⟩ := frz3 BK584.out
   go_wp2_with (first | (go_at_call 43; (with_reducible refine (spec_l3Texts.calls k _ _ l0_1 _ _ l1_1 false _ ?side1 ?side2 ?side3 ?side4 A7.out).mono ?_); (case side1 => have X_ := HR0_1; exact cbl); (case side2 => exact HC0_1.out); (case side3 => have X_ := HR1_1; exact cbl); (case side4 => exact HC1_1.out); rintro e w' ⟨rfl, ⟨nd, rfl⟩⟩))
   go_meet
   case rel => exact ⟨_, (true), rfs, H', ⟨by first | omega | exact Nat.le_refl _⟩, ⟨bkw⟩, ⟨bkw⟩, ⟨blw⟩⟩
  subst c8
  have H1 : (spec_EqualType.j0 k ((l0_2.length : Int) != (l1_2.length : Int)) a0_0 l0_1 l0_2 a1_0 l1_1 l1_2) = some r := by rw [if_pos rfl] at H; exact H
  clear H
  have H := H1
  clear H1
  have H' := Aside0.mk H
  clear H
  have hnb9 := NB583_584.out
  have hnc9 := NB584_583.out
  obtain ⟨hcz10_0, hcz10_1, hcz10_2⟩ := cls3 BK583.out
  obtain ⟨hfz10_0, hfz10_1, hfz10_2⟩ := frz3 BK583.out
  obtain ⟨hcz11_0, hcz11_1, hcz11_2⟩ := cls3 BK584.out
  obtain ⟨hfz11_0, hfz11_1, hfz11_2⟩ := frz3 BK584.out
  go_wp2_with (first | (go_at_call 43; (with_reducible refine (spec_l3Texts.calls k _ _ l0_1 _ _ l1_1 true _ ?side1 ?side2 ?side3 ?side4 A7.out).mono ?_); (case side1 => have X_ := HR0_1; exact cbl); (case side2 => exact HC0_1.out); (case side3 => have X_ := HR1_1; exact cbl); (case side4 => exact HC1_1.out); rintro e w' ⟨rfl, ⟨nd, rfl⟩⟩))
  go_meet
  case rel => exact ⟨_, (((l0_2.length : Int) != (l1_2.length : Int))), rfs, H', ⟨by first | omega | exact Nat.le_refl _⟩, ⟨bkw⟩, ⟨bkw⟩, ⟨blw⟩⟩
 case rest =>
  clear HC3
  (try clear c1); (try clear c2); (try clear p2); (try clear c6); (try clear c6b0); (try clear c6b1); (try clear c8); (try clear c9); (try clear c12); (try clear c15); (try clear hcz10_0); (try clear hcz10_1); (try clear hcz10_2); (try clear hcz11_0); (try clear hcz11_1); (try clear hcz11_2); (try clear hcz13_0); (try clear hcz13_1); (try clear hcz13_2); (try clear hcz14_0); (try clear hcz14_1); (try clear hcz14_2); (try clear hcz16_0); (try clear hcz16_1); (try clear hcz16_2); (try clear hcz17_0); (try clear hcz17_1); (try clear hcz17_2); (try clear hfz10_0); (try clear hfz10_1); (try clear hfz10_2); (try clear hfz11_0); (try clear hfz11_1); (try clear hfz11_2); (try clear hfz13_0); (try clear hfz13_1); (try clear hfz13_2); (try clear hfz14_0); (try clear hfz14_1); (try clear hfz14_2); (try clear hfz16_0); (try clear hfz16_1); (try clear hfz16_2); (try clear hfz17_0); (try clear hfz17_1); (try clear hfz17_2)
  obtain ⟨kq, x27_2, rfl, HA, HJ2, BK583, BK584, HB⟩ := hcut
  cases kq with
  | zero => exact absurd HA.out (by simp [spec_EqualType.j0])
  | succ kj2 =>
   have H := HA.out
   clear HA
   simp only [spec_EqualType.j0] at H
   by_cases c18 : x27_2 = true
   ·subst c18
    have H1 : (some false) = some r := by rw [if_pos rfl] at H; exact H
    clear H
    have H := H1
    clear H1
    obtain rfl := Option.some.inj H
    go_wp2
    go_ret
    exact ⟨rfw, blw⟩
   replace c18 := Bool.eq_false_iff.mpr c18
   subst c18
   have H1 : (spec_EqualType.l0 kj2 0 a0_0 l0_1 l0_2 a1_0 l1_1 l1_2) = some r := by rw [if_neg (show ¬ (false = true) by decide)] at H; exact H
   clear H
   have H := H1
   clear H1
   have H' := Aside0.mk H
   clear H
   go_wp2
   go_loopg [5] kj2 (fun kq v5 w' => ∃ (x5_2 : Int), v5 = .int .i64 x5_2 ∧ Aside0 (spec_EqualType.l0 kq x5_2 a0_0 l0_1 l0_2 a1_0 l1_1 l1_2 = some r) ∧ Aside0 (kq ≤ kj2) ∧ Aside0 (w'.heap[gb583]? = some (.cells #[.int .i64 a0_0, (.slice A0_1 l0_1.length c0_1), (.slice A0_2 l0_2.length c0_2)] 27 (0, 0))) ∧ Aside0 (w'.heap[gb584]? = some (.cells #[.int .i64 a1_0, (.slice A1_1 l1_1.length c1_1), (.slice A1_2 l1_2.length c1_2)] 27 (0, 0))) ∧ Aside0 (Below w.heap.size w w'))
   case atStart => exact ⟨(0), rfs, H', ⟨Nat.le_refl _⟩, ⟨bkw⟩, ⟨bkw⟩, ⟨blw⟩⟩
   case round =>
    clear H'
    (try clear c1); (try clear c2); (try clear p2); (try clear c6); (try clear c6b0); (try clear c6b1); (try clear c8); (try clear c9); (try clear c12); (try clear c15); (try clear c18); (try clear hcz10_0); (try clear hcz10_1); (try clear hcz10_2); (try clear hcz11_0); (try clear hcz11_1); (try clear hcz11_2); (try clear hcz13_0); (try clear hcz13_1); (try clear hcz13_2); (try clear hcz14_0); (try clear hcz14_1); (try clear hcz14_2); (try clear hcz16_0); (try clear hcz16_1); (try clear hcz16_2); (try clear hcz17_0); (try clear hcz17_1); (try clear hcz17_2); (try clear hfz10_0); (try clear hfz10_1); (try clear hfz10_2); (try clear hfz11_0); (try clear hfz11_1); (try clear hfz11_2); (try clear hfz13_0); (try clear hfz13_1); (try clear hfz13_2); (try clear hfz14_0); (try clear hfz14_1); (try clear hfz14_2); (try clear hfz16_0); (try clear hfz16_1); (try clear hfz16_2); (try clear hfz17_0); (try clear hfz17_1); (try clear hfz17_2); (try clear p2)
    obtain ⟨x5_2, rfl, HA, HK2, BK583, BK584, HB⟩ := hrel
    cases gk with
    | zero => exact absurd HA.out (by simp [spec_EqualType.l0])
    | succ k2 =>
     have H := HA.out
     clear HA
     simp only [spec_EqualType.l0] at H
     by_cases c19 : x5_2 < (l0_2.length : Int)
     case neg =>
      rw [if_neg c19] at H
      have c19b0 : decide (x5_2 < (l0_2.length : Int)) = false := decide_eq_false c19
      clear c19
      obtain rfl := Option.some.inj H
      have hnb29 := NB583_584.out
      have hnc29 := NB584_583.out
      obtain ⟨hcz30_0, hcz30_1, hcz30_2⟩ := cls3 BK583.out
      obtain ⟨hfz30_0, hfz30_1, hfz30_2⟩ := frz3 BK583.out
      go_wp2
      go_ret
      exact ⟨rfw, blw⟩
     rw [if_pos c19] at H
     have c19b0 : decide (x5_2 < (l0_2.length : Int)) = true := decide_eq_true c19
     clear c19
     by_cases c20 : 0 ≤ x5_2
     case neg =>
      rw [if_neg c20] at H
      exact absurd H (by simp)
     rw [if_pos c20] at H
     have c20b0 : decide (0 ≤ x5_2) = true := decide_eq_true c20
     clear c20
     by_cases c21 : x5_2 < (l1_2.length : Int)
     case neg =>
      rw [if_neg c21] at H
      exact absurd H (by simp)
     rw [if_pos c21] at H
     have c21b0 : decide (x5_2 < (l1_2.length : Int)) = true := decide_eq_true c21
     clear c21
     replace H := Option.bind_eq_some_iff.mp H
     obtain ⟨t588, A220, H⟩ := H
     replace H : (if t588 = true then (spec_EqualType.l0 k2 (wrap64 (x5_2 + 1)) a0_0 l0_1 l0_2 a1_0 l1_1 l1_2) else (some false)) = some r := H
     have A22 := Aside0.mk A220
     clear A220
     have HC23 := Aside0.mk H
     clear H
     have hnb24 := NB583_584.out
     have hnc24 := NB584_583.out
     obtain ⟨hcz25_0, hcz25_1, hcz25_2⟩ := cls3 BK583.out
     obtain ⟨hfz25_0, hfz25_1, hfz25_2⟩ := frz3 BK583.out
     try go_wp2
     have n0_ := Aside0.mk (blk_drew BK583.out)
     have n1_ := Aside0.mk (blk_drew BK584.out)
     have n2_ := Aside0.mk (below_drew1 HB.out)
     clear BK583
     clear BK584
     clear HB
     revert n0_ n1_ n2_
     intro BK583 BK584 HB
     have p586 : 0 ≤ (x5_2 : Int) := of_decide_eq_true asw
     have q586 : x5_2 < (l0_2.length : Int) := of_decide_eq_true asw
     obtain ⟨ad586, A586_1, c586_1, A586_2, c586_2, e586, hx586_0, hx586_1, hx586_2, hl586_1, hi586_1, hl586_2, hi586_2⟩ := at_T27 HR0_2.out x5_2 p586 q586
     have hw586_2 := hx586_2
     have hw586_1 := hx586_1
     have hw586_0 := hx586_0
     cases e586
     replace hx586_0 := upw HB.out hx586_0
     replace hx586_1 := upw HB.out hx586_1
     replace hx586_2 := upw HB.out hx586_2
     have HR586_1 := Aside0.mk hi586_1
     have HC586_1 := Aside0.mk hl586_1
     clear hi586_1 hl586_1
     have HR586_2 := Aside0.mk hi586_2
     have HC586_2 := Aside0.mk hl586_2
     clear hi586_2 hl586_2
     replace p586 := eq_true p586
     replace q586 := eq_true q586
     have p587 : 0 ≤ (x5_2 : Int) := of_decide_eq_true asw
     have q587 : x5_2 < (l1_2.length : Int) := of_decide_eq_true asw
     obtain ⟨ad587, A587_1, c587_1, A587_2, c587_2, e587, hx587_0, hx587_1, hx587_2, hl587_1, hi587_1, hl587_2, hi587_2⟩ := at_T27 HR1_2.out x5_2 p587 q587
     have hw587_2 := hx587_2
     have hw587_1 := hx587_1
     have hw587_0 := hx587_0
     cases e587
     replace hx587_0 := upw HB.out hx587_0
     replace hx587_1 := upw HB.out hx587_1
     replace hx587_2 := upw HB.out hx587_2
     have HR587_1 := Aside0.mk hi587_1
     have HC587_1 := Aside0.mk hl587_1
     clear hi587_1 hl587_1
     have HR587_2 := Aside0.mk hi587_2
     have HC587_2 := Aside0.mk hl587_2
     clear hi587_2 hl587_2
     replace p587 := eq_true p587
     replace q587 := eq_true q587
     refine start_ (n := 12) (S := fun w' => w'.cell? ⟨gb583, 0, none⟩ = some (.int .i64 a0_0) ∧ w'.cell? ⟨gb583, 1, none⟩ = some (.slice A0_1 l0_1.length c0_1) ∧ w'.cell? ⟨gb583, 2, none⟩ = some (.slice (some ad586) l0_2.length c0_2) ∧ w'.cell? ⟨gb584, 0, none⟩ = some (.int .i64 a1_0) ∧ w'.cell? ⟨gb584, 1, none⟩ = some (.slice A1_1 l1_1.length c1_1) ∧ w'.cell? ⟨gb584, 2, none⟩ = some (.slice (some ad587) l1_2.length c1_2) ∧ w'.cell? (ad586.add ((x5_2).toNat * 3)) = some (.int .i64 ((rd_T27 l0_2 x5_2).f0)) ∧ w'.cell? ⟨(ad586.add ((x5_2).toNat * 3)).block, (ad586.add ((x5_2).toNat * 3)).off + 1, none⟩ = some (.slice A586_1 ((rd_T27 l0_2 x5_2).f1).length c586_1) ∧ w'.cell? ⟨(ad586.add ((x5_2).toNat * 3)).block, (ad586.add ((x5_2).toNat * 3)).off + 2, none⟩ = some (.slice A586_2 ((rd_T27 l0_2 x5_2).f2).length c586_2) ∧ w'.cell? (ad587.add ((x5_2).toNat * 3)) = some (.int .i64 ((rd_T27 l1_2 x5_2).f0)) ∧ w'.cell? ⟨(ad587.add ((x5_2).toNat * 3)).block, (ad587.add ((x5_2).toNat * 3)).off + 1, none⟩ = some (.slice A587_1 ((rd_T27 l1_2 x5_2).f1).length c587_1) ∧ w'.cell? ⟨(ad587.add ((x5_2).toNat * 3)).block, (ad587.add ((x5_2).toNat * 3)).off + 2, none⟩ = some (.slice A587_2 ((rd_T27 l1_2 x5_2).f2).length c587_2)) (ds := []) #[false,false,false,false,false,false,false,false,false,false,false,false] kr rfl rfl ⟨(blk_cell BK583.out 0).trans rfl, (blk_cell BK583.out 1).trans rfl, (blk_cell BK583.out 2).trans rfl, (blk_cell BK584.out 0).trans rfl, (blk_cell BK584.out 1).trans rfl, (blk_cell BK584.out 2).trans rfl, ((HB.out.cell (World.block_lt_of_cell? w _ hw586_0)).trans hw586_0), ((HB.out.cell (World.block_lt_of_cell? w _ hw586_1)).trans hw586_1), ((HB.out.cell (World.block_lt_of_cell? w _ hw586_2)).trans hw586_2), ((HB.out.cell (World.block_lt_of_cell? w _ hw587_0)).trans hw587_0), ((HB.out.cell (World.block_lt_of_cell? w _ hw587_1)).trans hw587_1), ((HB.out.cell (World.block_lt_of_cell? w _ hw587_2)).trans hw587_2)⟩ (fun hHeld => ?_); refine with_tabW spec_EqualType.tab6 spec_EqualType.bits6 (fun HT_ HW_ => ?_)
     generalize wr.drew = w26 at BK583 BK584 HB HR586_1 HR586_2 HR587_1 HR587_2 hx586_0 hx586_1 hx586_2 hx587_0 hx587_1 hx587_2 hHeld ⊢
     refine pure_ (i := 0) (N := some 35) (v := ?_) (a' := ?_) (bm 12 1) rfl rfl (any_of HT_.out kr) qi (Or.inl ⟨by rfl, ?_⟩) ?_ ?_
     rotate_left
     ·intro w'
      go_simp
      with_reducible rfl
     rotate_left
     ·simp only [sx]
      rfl
     refine pure_ (i := 2) (N := some 37) (v := ?_) (a' := ?_) (bm 12 5) rfl rfl (any_of HT_.out kr) qi (Or.inl ⟨by rfl, ?_⟩) ?_ ?_
     rotate_left
     ·intro w'
      go_simp
      with_reducible rfl
     rotate_left
     ·simp only [sx]
      rfl
     refine pure_ (i := 5) (N := some 40) (v := ?_) (a' := ?_) (bm 12 37) rfl rfl (any_of HT_.out kr) qi (Or.inl ⟨by rfl, ?_⟩) ?_ ?_
     rotate_left
     ·intro w'
      go_simp
      with_reducible rfl
     rotate_left
     ·simp only [sx]
      rfl
     refine pure_ (i := 7) (N := some 42) (v := ?_) (a' := ?_) (bm 12 165) rfl rfl (any_of HT_.out kr) qi (Or.inl ⟨by rfl, ?_⟩) ?_ ?_
     rotate_left
     ·intro w'
      go_simp
      with_reducible rfl
     rotate_left
     ·simp only [sx]
      rfl
     refine take_ (i := 1) (N := some 36) (v := ?_) (a' := ?_) (bm 12 167) rfl rfl (take_ofW HT_.out HW_.out kr) qi (Or.inl ⟨by rfl, ?_⟩) hHeld ?_ ?_
     rotate_left
     ·rintro w' ⟨s0, s1, s2, s3, s4, s5, s6, s7, s8, s9, s10, s11⟩
      go_simp
      with_reducible rfl
     rotate_left
     ·simp only [sx]
      rfl
     refine pure_ (i := 3) (N := some 38) (v := ?_) (a' := ?_) (bm 12 175) rfl rfl (any_of HT_.out kr) qi (Or.inl ⟨by rfl, ?_⟩) ?_ ?_
     rotate_left
     ·intro w'
      go_simp
      with_reducible rfl
     rotate_left
     ·simp only [sx]
      rfl
     refine take_ (i := 4) (N := some 39) (v := ?_) (a' := ?_) (bm 12 191) rfl rfl (take_ofW HT_.out HW_.out kr) qi (Or.inl ⟨by rfl, ?_⟩) hHeld ?_ ?_
     rotate_left
     ·rintro w' ⟨s0, s1, s2, s3, s4, s5, s6, s7, s8, s9, s10, s11⟩
      go_simp
      with_reducible rfl
     rotate_left
     ·simp only [sx]
      rfl
     refine take_ (i := 6) (N := some 41) (v := ?_) (a' := ?_) (bm 12 255) rfl rfl (take_ofW HT_.out HW_.out kr) qi (Or.inl ⟨by rfl, ?_⟩) hHeld ?_ ?_
     rotate_left
     ·rintro w' ⟨s0, s1, s2, s3, s4, s5, s6, s7, s8, s9, s10, s11⟩
      go_simp
      with_reducible rfl
     rotate_left
     ·simp only [sx]
      rfl
     refine pure_ (i := 8) (N := some 43) (v := ?_) (a' := ?_) (bm 12 511) rfl rfl (any_of HT_.out kr) qi (Or.inl ⟨by rfl, ?_⟩) ?_ ?_
     rotate_left
     ·intro w'
      go_simp
      with_reducible rfl
     rotate_left
     ·simp only [sx]
      rfl
     refine take_ (i := 9) (N := some 44) (v := ?_) (a' := ?_) (bm 12 1023) rfl rfl (take_ofW HT_.out HW_.out kr) qi (Or.inl ⟨by rfl, ?_⟩) hHeld ?_ ?_
     rotate_left
     ·rintro w' ⟨s0, s1, s2, s3, s4, s5, s6, s7, s8, s9, s10, s11⟩
      go_simp
      with_reducible rfl
     rotate_left
     ·simp only [sx]
      rfl
     refine one_ (i := 10) (N := some 45) (bm 12 2047) rfl rfl (one_of HT_.out kr) (by decide) (fun K hK => ?_)
     refine goes_ Try.func21 kr rfl #[.agg #[.int .i64 ((rd_T27 l0_2 x5_2).f0), .slice A586_1 ((rd_T27 l0_2 x5_2).f1).length c586_1, .slice A586_2 ((rd_T27 l0_2 x5_2).f2).length c586_2], .agg #[.int .i64 ((rd_T27 l1_2 x5_2).f0), .slice A587_1 ((rd_T27 l1_2 x5_2).f1).length c587_1, .slice A587_2 ((rd_T27 l1_2 x5_2).f2).length c587_2]] (by rfl) rfl rfl mpw ?_
     with_reducible refine (ih k2 (by have := HJ2.out; have := HK2.out; omega) ((rd_T27 l0_2 x5_2).f0) _ _ ((rd_T27 l0_2 x5_2).f1) _ _ ((rd_T27 l0_2 x5_2).f2) ((rd_T27 l1_2 x5_2).f0) _ _ ((rd_T27 l1_2 x5_2).f1) _ _ ((rd_T27 l1_2 x5_2).f2) t588 _ ?side1 ?side2 ?side3 ?side4 ?side5 ?side6 ?side7 ?side8 A22.out).mono ?_
     (case side1 => have X_ := HR586_1; exact cbl)
     (case side2 => exact HC586_1.out)
     (case side3 => have X_ := HR586_2; exact cbl)
     (case side4 => exact HC586_2.out)
     (case side5 => have X_ := HR587_1; exact cbl)
     (case side6 => exact HC587_1.out)
     (case side7 => have X_ := HR587_2; exact cbl)
     (case side8 => exact HC587_2.out)
     rintro e w27 ⟨rfl, hb⟩
     refine ⟨_, rfl, ?_⟩
     have n0_ := Aside0.mk (blk_below (g := gb583) (o := .cells #[.int .i64 a0_0, .slice A0_1 l0_1.length c0_1, .slice (some ad586) l0_2.length c0_2] 27 (0, 0)) bkw hb)
     have n1_ := Aside0.mk (blk_below (g := gb584) (o := .cells #[.int .i64 a1_0, .slice A1_1 l1_1.length c1_1, .slice (some ad587) l1_2.length c1_2] 27 (0, 0)) bkw hb)
     have n2_ := Aside0.mk (below_step blw hb)
     clear BK583
     clear BK584
     clear HB
     revert n0_ n1_ n2_
     intro BK583 BK584 HB
     (try clear hb)
     (try clear hb2)
     (try clear hk)
     (try clear hi)
     refine hK.out _ _ ⟨(blk_cell BK583.out 0).trans rfl, (blk_cell BK583.out 1).trans rfl, (blk_cell BK583.out 2).trans rfl, (blk_cell BK584.out 0).trans rfl, (blk_cell BK584.out 1).trans rfl, (blk_cell BK584.out 2).trans rfl, ((HB.out.cell (World.block_lt_of_cell? w _ hw586_0)).trans hw586_0), ((HB.out.cell (World.block_lt_of_cell? w _ hw586_1)).trans hw586_1), ((HB.out.cell (World.block_lt_of_cell? w _ hw586_2)).trans hw586_2), ((HB.out.cell (World.block_lt_of_cell? w _ hw587_0)).trans hw587_0), ((HB.out.cell (World.block_lt_of_cell? w _ hw587_1)).trans hw587_1), ((HB.out.cell (World.block_lt_of_cell? w _ hw587_2)).trans hw587_2)⟩ (fun hHeld => ?_)
     clear hK K
     refine norm_ (a' := ?_) ?_ ?_
     rotate_left
     ·show Act.put _ (some 45) _ = _
      simp only [sx]
      rfl
     refine pure_ (i := 11) (N := some 46) (v := ?_) (a' := ?_) (bm 12 4095) rfl rfl (any_of HT_.out kr) qi (Or.inl ⟨by rfl, ?_⟩) ?_ ?_
     rotate_left
     ·intro w'
      go_simp
      with_reducible rfl
     rotate_left
     ·simp only [sx]
      rfl
     refine done_ (done_of HT_.out kr) ?_
     go_upto_if 46 with (fail)
     have H := HC23.out
     clear HC23
     by_cases c28 : t588 = true
     case neg =>
      replace c28 := Bool.eq_false_iff.mpr c28
      subst c28
      have H1 : (some false) = some r := by rw [if_neg (show ¬ (false = true) by decide)] at H; exact H
      clear H
      have H := H1
      clear H1
      obtain rfl := Option.some.inj H
      go_wp2
      go_ret
      exact ⟨rfw, blw⟩
     subst c28
     have H1 : (spec_EqualType.l0 k2 (wrap64 (x5_2 + 1)) a0_0 l0_1 l0_2 a1_0 l1_1 l1_2) = some r := by rw [if_pos rfl] at H; exact H
     clear H
     have H := H1
     clear H1
     have H' := Aside0.mk H
     clear H
     go_wp2
     go_roundg k2
     case measure => have := HJ2.out; have := HK2.out; omega
     case rel => exact ⟨(wrap64 (x5_2 + 1)), rfs, H', ⟨by have := HJ2.out; have := HK2.out; omega⟩, ⟨bkw⟩, ⟨bkw⟩, ⟨blw⟩⟩

-- NOT PRINTED: function 3 (laws_FnTypes)

end Go.Proofs.Ytaakdfbfgabdbaa.Pt
end
section
namespace Go.Proofs.Ytaakdfbfgabdbaa.Pt
open Go.RowKit Go.Proofs.YtaakdfbfgabdbaaW.PrintWords Go.Proofs.YtaakdfbfgabdbaaW.PrintLast Go.Proofs.Ytaakdfbfgabdbaa.Pl Go.Proofs.Ytaakdfbfgabdbaa.Ext
set_option linter.unusedVariables false
set_option linter.unusedSimpArgs false
theorem Texts_same (xs ys : List ByteArray) (hx : xs.length ≤ 1048576) : Same (fun k => spec_l3Texts.f k xs ys) (fun k => slices_Equal_string_string.f k xs ys) := by
  simp only [spec_l3Texts.f, slices_Equal_string_string.f]
  refine Same.ite Iff.rfl (fun h => ?_) (fun _ => Same.ret rfl)
  refine Same.loop0 xs.length (fun k i => spec_l3Texts.l0 k xs ys (i : Int)) (fun k i => slices_Equal_string_string.l0 k xs ys (xs.length : Int) (i : Int)) ?_ (fun i hi ih => ?_)
  · refine Same.up ?_
    simp only [spec_l3Texts.l0, slices_Equal_string_string.l0]
    exact Same.neg (by omega) (by omega) (Same.ret rfl)
  · refine Same.up ?_
    simp only [spec_l3Texts.l0, slices_Equal_string_string.l0, w1' hi hx]
    exact Same.pos (by omega) (by omega) (Same.pos (by omega) (by omega) (Same.posR (by omega) (Same.pos (by omega) (by omega) (Same.ite Iff.rfl (fun _ => ih) (fun _ => Same.ret rfl)))))
theorem EqualType_same_ : ∀ x : S27, ∀ y : S27, SmType x → SmType y → Same (fun k => spec_EqualType.f k x.f0 x.f1 x.f2 y.f0 y.f1 y.f2) (fun k => impl_EqualType.f k x.f0 x.f1 x.f2 y.f0 y.f1 y.f2) := by
  refine indTypeI fun x ih y hs ht => ?_
  have no : Ev (fun k => spec_EqualType.j0 k true x.f0 x.f1 x.f2 y.f0 y.f1 y.f2) false := by
    refine Ev.up ?_
    simp only [spec_EqualType.j0]
    exact Ev.pos (by simp) (Ev.now _)
  refine Same.up ?_
  simp only [spec_EqualType.f, impl_EqualType.f]
  refine Same.ite Iff.rfl (fun _ => ?_) (fun _ => ⟨false, no, Ev.now _⟩)
  refine Same.bind (Texts_same x.f1 y.f1 hs.p1.1) (fun t _ _ => ?_)
  refine Same.ite Iff.rfl (fun _ => ?_) (fun _ => ⟨false, no, Ev.now _⟩)
  by_cases hl : x.f2.length = y.f2.length
  · have loop : Same (fun k => spec_EqualType.l0 k 0 x.f0 x.f1 x.f2 y.f0 y.f1 y.f2) (fun k => slices_EqualFunc_Type_of_EqualType.l0 k y.f2 x.f2 (x.f2.length : Int) 0) := by
      refine Same.loop0 x.f2.length (fun k i => spec_EqualType.l0 k (i : Int) x.f0 x.f1 x.f2 y.f0 y.f1 y.f2) (fun k i => slices_EqualFunc_Type_of_EqualType.l0 k y.f2 x.f2 (x.f2.length : Int) (i : Int)) ?_ (fun i hi ihl => ?_)
      · refine Same.up ?_
        simp only [spec_EqualType.l0, slices_EqualFunc_Type_of_EqualType.l0]
        exact Same.neg (by omega) (by omega) (Same.ret rfl)
      · refine Same.up ?_
        simp only [spec_EqualType.l0, slices_EqualFunc_Type_of_EqualType.l0, w1' hi hs.p2.1]
        refine Same.pos (by omega) (by omega) (Same.pos (by omega) (by omega) (Same.posR (by omega) (Same.pos (by omega) (by omega) ?_)))
        refine Same.bind (ih (x.f2.getD i z27) (mem_getD x.f2 z27 i hi) (y.f2.getD i z27) (hs.p2.2 _ (mem_getD x.f2 z27 i hi)) (ht.p2.2 _ (mem_getD y.f2 z27 i (by omega)))) (fun t _ _ => ?_)
        exact Same.ite Iff.rfl (fun _ => ihl) (fun _ => Same.ret rfl)
    rw [show ((x.f2.length : Int) != (y.f2.length : Int)) = false from by simp [hl]]
    refine Same.upL ?_
    simp only [spec_EqualType.j0]
    refine Same.negL (by decide) ?_
    obtain ⟨r, h1, h2⟩ := loop
    refine ⟨r, h1, Ev.bind (a := r) ?_ (Ev.now _)⟩
    refine Ev.up ?_
    simp only [slices_EqualFunc_Type_of_EqualType.f]
    exact Ev.pos (by omega) h2
  · rw [show ((x.f2.length : Int) != (y.f2.length : Int)) = true from by simpa using (by omega : ¬ (x.f2.length : Int) = y.f2.length)]
    refine ⟨false, no, Ev.bind (a := false) ?_ (Ev.now _)⟩
    refine Ev.up ?_
    simp only [slices_EqualFunc_Type_of_EqualType.f]
    exact Ev.neg (by omega) (Ev.now _)
theorem EqualType_same (x : S27) (hs : SmType x) (hn : ndType x ≤ 1048577) (y : S27) (ht : SmType y) (hm : ndType y ≤ 1048577) : Same (fun k => spec_EqualType.f k x.f0 x.f1 x.f2 y.f0 y.f1 y.f2) (fun k => impl_EqualType.f k x.f0 x.f1 x.f2 y.f0 y.f1 y.f2) := EqualType_same_ x y hs ht

end Go.Proofs.Ytaakdfbfgabdbaa.Pt
end
