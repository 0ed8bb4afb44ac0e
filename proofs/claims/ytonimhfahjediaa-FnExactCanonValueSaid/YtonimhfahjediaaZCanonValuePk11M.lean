/- Printed by a program of this session: what functions of the translation come to, each contract as it stands. No condition. -/
import Derived.Test.YtonimhfahjediaaZCanonValueSh
import Derived.Test.YtonimhfahjediaaZCanonValueWTabM
import Derived.Test.YtonimhfahjediaaZCanonValuePk3M
section
namespace Go.Proofs.Ytonimhfahjediaa.Pk
set_option maxHeartbeats 8000000
set_option maxRecDepth 100000
open Go.RowKit Go.Proofs.Ytonimhfahjediaa.Ext Go.Proofs.YtonimhfahjediaaW.PrintWords Go.Proofs.YtonimhfahjediaaW.PrintLast Go.Proofs.YtonimhfahjediaaW.PrintMore
attribute [local go_sem] max2_int min2_int max_two min_two max_three min_three max_four min_four   -- for this text's walks alone
set_option linter.unusedVariables false
set_option linter.unusedSimpArgs false

/-! ### laws_heldValueS: function 32 -/
mutual
def laws_heldValueS.l0 : Nat → List (S30) → Int → Int → Option (Int)
 | 0, _, _, _ => none
 | k + 1, x0, x1, x5 => if x5 < (x0.length : Int) then (if 0 ≤ x5 then (if ((rd_T30 x0 x5).f0) = x1 then (if ((rd_T30 x0 x5).f1) = (wrap64 (x1 + 1)) then ((laws_heldStringS.f k ((rd_T30 x0 x5).f2) (wrap64 ((wrap64 (x1 + 1)) + 1))).bind fun t272 => (if t272 < 0 then (some (-1)) else ((laws_heldValueS.f k ((rd_T30 x0 x5).f3) t272).bind fun t274 => (if t274 < 0 then (some (-1)) else (laws_heldValueS.l0 k x0 t274 (wrap64 (x5 + 1))))))) else (some (-1))) else (some (-1))) else (none)) else (some x1)
def laws_heldValueS.f : Nat → List (S30) → Int → Option (Int)
 | 0, _, _ => none
 | k + 1, l0, a1 => laws_heldValueS.l0 k l0 a1 0
end
theorem laws_heldValueS.calls (k : Nat) : ∀ (A0 : Option Addr) (c0 : Nat) (l0 : List (S30)) (a1 : Int) (r : Int) (w : World) (hr0 : Kd.C k30 w A0 l0.length l0) (hc0 : l0.length ≤ c0) (h : laws_heldValueS.f k l0 a1 = some r),
  Calls Try.prog 32 #[.slice A0 l0.length c0, .int .i64 a1] w fun e w' => e = .returned (.int .i64 r) ∧ Below w.heap.size w w' := by
 induction k using Nat.strongRecOn with
 | _ k ih =>
 intro A0 c0 l0 a1 r w hr0 hc0 h
 cases k with
 | zero => exact absurd h (by simp [laws_heldValueS.f])
 | succ k =>
 simp only [laws_heldValueS.f] at h
 have HR0 := am hr0
 have HC0 := am hc0
 clear hr0 hc0
 have HB := am (Below.refl w.heap.size w)
 have H : (laws_heldValueS.l0 k l0 a1 0) = some r := h
 clear h
 have H' := am H
 clear H
 go_enter Try.func32, Try.ntmps32
 go_wp2
 go_loopg [1, 5] k (fun kq v1 v5 w' => ∃ (x1_1 : Int) (x5_1 : Int), v1 = .int .i64 x1_1 ∧ v5 = .int .i64 x5_1 ∧ Aside0 (laws_heldValueS.l0 kq l0 x1_1 x5_1 = some r) ∧ Aside0 (kq ≤ k) ∧ Aside0 (Below w.heap.size w w'))
 case atStart => exact ⟨(a1), (0), rfs, rfs, H', ⟨Nat.le_refl _⟩, ⟨blw⟩⟩
 case round =>
  clear H'
  try clear p2
  obtain ⟨x1_1, x5_1, rfl, rfl, HA, HK1, HB⟩ := hrel
  cases gk with
  | zero => exact absurd HA.out (by simp [laws_heldValueS.l0])
  | succ k1 =>
   have H := HA.out
   clear HA
   simp only [laws_heldValueS.l0] at H
   by_cases c3 : x5_1 < (l0.length : Int)
   case neg =>
    rw [if_neg c3] at H
    have c3b0 : decide (x5_1 < (l0.length : Int)) = false := decide_eq_false c3
    clear c3
    obtain rfl := Option.some.inj H
    go_wp2
    go_ret
    exact ⟨rfw, blw⟩
   rw [if_pos c3] at H
   have c3b0 : decide (x5_1 < (l0.length : Int)) = true := decide_eq_true c3
   clear c3
   by_cases c4 : 0 ≤ x5_1
   case neg =>
    rw [if_neg c4] at H
    exact absurd H (by simp)
   rw [if_pos c4] at H
   have c4b0 : decide (0 ≤ x5_1) = true := decide_eq_true c4
   clear c4
   by_cases c5 : ((rd_T30 l0 x5_1).f0) = x1_1
   case neg =>
    rw [if_neg c5] at H
    have c5b0 : (((rd_T30 l0 x5_1).f0) == x1_1) = false := beq_eq_false_iff_ne.mpr c5
    have c5b1 : (((rd_T30 l0 x5_1).f0) != x1_1) = true := bne_iff_ne.mpr c5
    obtain rfl := Option.some.inj H
    have p269 : 0 ≤ (x5_1 : Int) := of_decide_eq_true asw
    have q269 : x5_1 < (l0.length : Int) := of_decide_eq_true asw
    obtain ⟨ad269, A269_2, c269_2, A269_3, c269_3, e269, hx269_0, hx269_1, hx269_2, hx269_3, hl269_2, hi269_2, hl269_3, hi269_3⟩ := at_T30 HR0.out x5_1 p269 q269
    cases e269
    replace hx269_0 := upw HB.out hx269_0
    replace hx269_1 := upw HB.out hx269_1
    replace hx269_2 := upw HB.out hx269_2
    replace hx269_3 := upw HB.out hx269_3
    have HR269_2 := am hi269_2
    have HC269_2 := am hl269_2
    clear hi269_2 hl269_2
    have HR269_3 := am hi269_3
    have HC269_3 := am hl269_3
    clear hi269_3 hl269_3
    replace p269 := eq_true p269
    replace q269 := eq_true q269
    go_wp2
    go_ret
    exact ⟨rfw, blw⟩
   rw [if_pos c5] at H
   have c5b0 : (((rd_T30 l0 x5_1).f0) == x1_1) = true := beq_iff_eq.mpr c5
   have c5b1 : (((rd_T30 l0 x5_1).f0) != x1_1) = false := bne_eq_false_iff_eq.mpr c5
   clear c5
   by_cases c6 : ((rd_T30 l0 x5_1).f1) = (wrap64 (x1_1 + 1))
   case neg =>
    rw [if_neg c6] at H
    have c6b0 : (((rd_T30 l0 x5_1).f1) == (wrap64 (x1_1 + 1))) = false := beq_eq_false_iff_ne.mpr c6
    have c6b1 : (((rd_T30 l0 x5_1).f1) != (wrap64 (x1_1 + 1))) = true := bne_iff_ne.mpr c6
    obtain rfl := Option.some.inj H
    have p269 : 0 ≤ (x5_1 : Int) := of_decide_eq_true asw
    have q269 : x5_1 < (l0.length : Int) := of_decide_eq_true asw
    obtain ⟨ad269, A269_2, c269_2, A269_3, c269_3, e269, hx269_0, hx269_1, hx269_2, hx269_3, hl269_2, hi269_2, hl269_3, hi269_3⟩ := at_T30 HR0.out x5_1 p269 q269
    cases e269
    replace hx269_0 := upw HB.out hx269_0
    replace hx269_1 := upw HB.out hx269_1
    replace hx269_2 := upw HB.out hx269_2
    replace hx269_3 := upw HB.out hx269_3
    have HR269_2 := am hi269_2
    have HC269_2 := am hl269_2
    clear hi269_2 hl269_2
    have HR269_3 := am hi269_3
    have HC269_3 := am hl269_3
    clear hi269_3 hl269_3
    replace p269 := eq_true p269
    replace q269 := eq_true q269
    have p270 : 0 ≤ (x5_1 : Int) := of_decide_eq_true asw
    have q270 : x5_1 < (l0.length : Int) := of_decide_eq_true asw
    obtain ⟨ad270, A270_2, c270_2, A270_3, c270_3, e270, hx270_0, hx270_1, hx270_2, hx270_3, hl270_2, hi270_2, hl270_3, hi270_3⟩ := at_T30 HR0.out x5_1 p270 q270
    obtain rfl : ad269 = ad270 := (by injection e270)
    replace hx270_0 := upw HB.out hx270_0
    replace hx270_1 := upw HB.out hx270_1
    replace hx270_2 := upw HB.out hx270_2
    replace hx270_3 := upw HB.out hx270_3
    have HR270_2 := am hi270_2
    have HC270_2 := am hl270_2
    clear hi270_2 hl270_2
    have HR270_3 := am hi270_3
    have HC270_3 := am hl270_3
    clear hi270_3 hl270_3
    replace p270 := eq_true p270
    replace q270 := eq_true q270
    have ea_ := Option.some.inj (hx269_2.symm.trans hx270_2)
    injection ea_ with ea_ en_ ec_
    subst ea_
    subst ec_
    clear en_
    have ea_ := Option.some.inj (hx269_3.symm.trans hx270_3)
    injection ea_ with ea_ en_ ec_
    subst ea_
    subst ec_
    clear en_
    go_wp2
    go_ret
    exact ⟨rfw, blw⟩
   rw [if_pos c6] at H
   have c6b0 : (((rd_T30 l0 x5_1).f1) == (wrap64 (x1_1 + 1))) = true := beq_iff_eq.mpr c6
   have c6b1 : (((rd_T30 l0 x5_1).f1) != (wrap64 (x1_1 + 1))) = false := bne_eq_false_iff_eq.mpr c6
   clear c6
   replace H := Option.bind_eq_some_iff.mp H
   obtain ⟨t272, A70, H⟩ := H
   replace H : (if t272 < 0 then (some (-1)) else ((laws_heldValueS.f k1 ((rd_T30 l0 x5_1).f3) t272).bind fun t274 => (if t274 < 0 then (some (-1)) else (laws_heldValueS.l0 k1 l0 t274 (wrap64 (x5_1 + 1)))))) = some r := H
   have A7 := am A70
   clear A70
   have HC8 := am H
   clear H
   have p269 : 0 ≤ (x5_1 : Int) := of_decide_eq_true asw
   have q269 : x5_1 < (l0.length : Int) := of_decide_eq_true asw
   obtain ⟨ad269, A269_2, c269_2, A269_3, c269_3, e269, hx269_0, hx269_1, hx269_2, hx269_3, hl269_2, hi269_2, hl269_3, hi269_3⟩ := at_T30 HR0.out x5_1 p269 q269
   cases e269
   replace hx269_0 := upw HB.out hx269_0
   replace hx269_1 := upw HB.out hx269_1
   replace hx269_2 := upw HB.out hx269_2
   replace hx269_3 := upw HB.out hx269_3
   have HR269_2 := am hi269_2
   have HC269_2 := am hl269_2
   clear hi269_2 hl269_2
   have HR269_3 := am hi269_3
   have HC269_3 := am hl269_3
   clear hi269_3 hl269_3
   replace p269 := eq_true p269
   replace q269 := eq_true q269
   have p270 : 0 ≤ (x5_1 : Int) := of_decide_eq_true asw
   have q270 : x5_1 < (l0.length : Int) := of_decide_eq_true asw
   obtain ⟨ad270, A270_2, c270_2, A270_3, c270_3, e270, hx270_0, hx270_1, hx270_2, hx270_3, hl270_2, hi270_2, hl270_3, hi270_3⟩ := at_T30 HR0.out x5_1 p270 q270
   obtain rfl : ad269 = ad270 := (by injection e270)
   replace hx270_0 := upw HB.out hx270_0
   replace hx270_1 := upw HB.out hx270_1
   replace hx270_2 := upw HB.out hx270_2
   replace hx270_3 := upw HB.out hx270_3
   have HR270_2 := am hi270_2
   have HC270_2 := am hl270_2
   clear hi270_2 hl270_2
   have HR270_3 := am hi270_3
   have HC270_3 := am hl270_3
   clear hi270_3 hl270_3
   replace p270 := eq_true p270
   replace q270 := eq_true q270
   have ea_ := Option.some.inj (hx269_2.symm.trans hx270_2)
   injection ea_ with ea_ en_ ec_
   subst ea_
   subst ec_
   clear en_
   have ea_ := Option.some.inj (hx269_3.symm.trans hx270_3)
   injection ea_ with ea_ en_ ec_
   subst ea_
   subst ec_
   clear en_
   have p271 : 0 ≤ (x5_1 : Int) := of_decide_eq_true asw
   have q271 : x5_1 < (l0.length : Int) := of_decide_eq_true asw
   obtain ⟨ad271, A271_2, c271_2, A271_3, c271_3, e271, hx271_0, hx271_1, hx271_2, hx271_3, hl271_2, hi271_2, hl271_3, hi271_3⟩ := at_T30 HR0.out x5_1 p271 q271
   obtain rfl : ad269 = ad271 := (by injection e271)
   replace hx271_0 := upw HB.out hx271_0
   replace hx271_1 := upw HB.out hx271_1
   replace hx271_2 := upw HB.out hx271_2
   replace hx271_3 := upw HB.out hx271_3
   have HR271_2 := am hi271_2
   have HC271_2 := am hl271_2
   clear hi271_2 hl271_2
   have HR271_3 := am hi271_3
   have HC271_3 := am hl271_3
   clear hi271_3 hl271_3
   replace p271 := eq_true p271
   replace q271 := eq_true q271
   have ea_ := Option.some.inj (hx269_2.symm.trans hx271_2)
   injection ea_ with ea_ en_ ec_
   subst ea_
   subst ec_
   clear en_
   have ea_ := Option.some.inj (hx269_3.symm.trans hx271_3)
   injection ea_ with ea_ en_ ec_
   subst ea_
   subst ec_
   clear en_
   go_upto_if 38 with (first | ((with_reducible refine gate_callee (f := 31) rfl ?_); refine goesL_ (some 36) rfl rfl Try.func31 kr rfl #[.slice A269_2 ((rd_T30 l0 x5_1).f2).length c269_2, .int .i64 (wrap64 ((wrap64 (x1_1 + 1)) + 1))] rfl mpw ?_; (with_reducible refine (laws_heldStringS.calls k1 _ _ ((rd_T30 l0 x5_1).f2) (wrap64 ((wrap64 (x1_1 + 1)) + 1)) t272 _ ?side1 ?side2 A7.out).mono ?_); (case side1 => have X_ := HR271_2; exact cbl); (case side2 => exact HC271_2.out); rintro e w9 ⟨rfl, hb⟩; refine ⟨_, rfl, ?_⟩; have n0_ := am (below_step blw hb); clear HB; revert n0_; intro HB; (try clear hb); (try clear hb2); (try clear hk); (try clear hi)))
   have H := HC8.out
   clear HC8
   by_cases c10 : t272 < 0
   ·rw [if_pos c10] at H
    have c10b0 : decide (t272 < 0) = true := decide_eq_true c10
    clear c10
    (first | rw [c10b0] | (simp only [i64_w, i32_w]; rw [c10b0]) | skip)
    obtain rfl := Option.some.inj H
    go_wp2
    go_ret
    exact ⟨rfw, blw⟩
   rw [if_neg c10] at H
   have c10b0 : decide (t272 < 0) = false := decide_eq_false c10
   clear c10
   (first | rw [c10b0] | (simp only [i64_w, i32_w]; rw [c10b0]) | skip)
   replace H := Option.bind_eq_some_iff.mp H
   obtain ⟨t274, A110, H⟩ := H
   replace H : (if t274 < 0 then (some (-1)) else (laws_heldValueS.l0 k1 l0 t274 (wrap64 (x5_1 + 1)))) = some r := H
   have A11 := am A110
   clear A110
   have HC12 := am H
   clear H
   have p273 : 0 ≤ (x5_1 : Int) := of_decide_eq_true asw
   have q273 : x5_1 < (l0.length : Int) := of_decide_eq_true asw
   obtain ⟨ad273, A273_2, c273_2, A273_3, c273_3, e273, hx273_0, hx273_1, hx273_2, hx273_3, hl273_2, hi273_2, hl273_3, hi273_3⟩ := at_T30 HR0.out x5_1 p273 q273
   obtain rfl : ad269 = ad273 := (by injection e273)
   replace hx273_0 := upw HB.out hx273_0
   replace hx273_1 := upw HB.out hx273_1
   replace hx273_2 := upw HB.out hx273_2
   replace hx273_3 := upw HB.out hx273_3
   have HR273_2 := am hi273_2
   have HC273_2 := am hl273_2
   clear hi273_2 hl273_2
   have HR273_3 := am hi273_3
   have HC273_3 := am hl273_3
   clear hi273_3 hl273_3
   replace p273 := eq_true p273
   replace q273 := eq_true q273
   go_upto_if 47 with (first | ((with_reducible refine gate_callee (f := 32) rfl ?_); refine goesL_ (some 45) rfl rfl Try.func32 kr rfl #[.slice A273_3 ((rd_T30 l0 x5_1).f3).length c273_3, .int .i64 t272] rfl mpw ?_; (with_reducible refine (ih k1 (by have := HK1.out; omega) _ _ ((rd_T30 l0 x5_1).f3) t272 t274 _ ?side1 ?side2 A11.out).mono ?_); (case side1 => have X_ := HR273_3; exact cbl); (case side2 => exact HC273_3.out); rintro e w13 ⟨rfl, hb⟩; refine ⟨_, rfl, ?_⟩; have n0_ := am (below_step blw hb); clear HB; revert n0_; intro HB; (try clear hb); (try clear hb2); (try clear hk); (try clear hi)))
   have H := HC12.out
   clear HC12
   by_cases c14 : t274 < 0
   ·rw [if_pos c14] at H
    have c14b0 : decide (t274 < 0) = true := decide_eq_true c14
    clear c14
    (first | rw [c14b0] | (simp only [i64_w, i32_w]; rw [c14b0]) | skip)
    obtain rfl := Option.some.inj H
    go_wp2
    go_ret
    exact ⟨rfw, blw⟩
   rw [if_neg c14] at H
   have c14b0 : decide (t274 < 0) = false := decide_eq_false c14
   clear c14
   (first | rw [c14b0] | (simp only [i64_w, i32_w]; rw [c14b0]) | skip)
   have H' := am H
   clear H
   go_wp2
   go_roundg k1
   case measure => have := HK1.out; omega
   case rel => exact ⟨(t274), (wrap64 (x5_1 + 1)), rfs, rfs, H', ⟨by have := HK1.out; omega⟩, ⟨blw⟩⟩

/-! ### laws_heldValue: function 16 -/
def laws_heldValue.f (k : Nat) (a0_0 : Int) (a0_1 : Int) (l0_2 : List ByteArray) (l0_3 : List (S30)) (a1 : Int) : Option (Int) := (laws_heldStringS.f k l0_2 a1).bind fun t276 => (if t276 < 0 then (some (-1)) else ((laws_heldValueS.f k l0_3 t276).bind fun t277 => (if t277 < 0 then (some (-1)) else (some t277))))
theorem laws_heldValue.calls (k : Nat) (a0_0 : Int) (a0_1 : Int) (A0_2 : Option Addr) (c0_2 : Nat) (l0_2 : List ByteArray) (A0_3 : Option Addr) (c0_3 : Nat) (l0_3 : List (S30)) (a1 : Int) (r : Int) (w : World) (hr0_2 : Kd.C Kd.string w A0_2 l0_2.length l0_2) (hc0_2 : l0_2.length ≤ c0_2) (hr0_3 : Kd.C k30 w A0_3 l0_3.length l0_3) (hc0_3 : l0_3.length ≤ c0_3) (h : laws_heldValue.f k a0_0 a0_1 l0_2 l0_3 a1 = some r) :
  Calls Try.prog 16 #[.agg #[.int .i64 a0_0, .int .i64 a0_1, .slice A0_2 l0_2.length c0_2, .slice A0_3 l0_3.length c0_3], .int .i64 a1] w fun e w' => e = .returned (.int .i64 r) ∧ Below w.heap.size w w' := by
 have hu30 := Try.underlying30
 have HR0_2 := am hr0_2
 have HC0_2 := am hc0_2
 clear hr0_2 hc0_2
 have HR0_3 := am hr0_3
 have HC0_3 := am hc0_3
 clear hr0_3 hc0_3
 have HB := am (Below.refl w.heap.size w)
 have H : ((laws_heldStringS.f k l0_2 a1).bind fun t276 => (if t276 < 0 then (some (-1)) else ((laws_heldValueS.f k l0_3 t276).bind fun t277 => (if t277 < 0 then (some (-1)) else (some t277))))) = some r := h
 clear h
 replace H := Option.bind_eq_some_iff.mp H
 obtain ⟨t276, A30, H⟩ := H
 replace H : (if t276 < 0 then (some (-1)) else ((laws_heldValueS.f k l0_3 t276).bind fun t277 => (if t277 < 0 then (some (-1)) else (some t277)))) = some r := H
 have A3 := am A30
 clear A30
 have HC4 := am H
 clear H
 go_enter Try.func16, Try.ntmps16
 go_upto_if 10 with (first | ((with_reducible refine gate_dst (N := 2) rfl ?_); refine box_event ?hg (N := 2) ?hd (cs := #[.int .i64 a0_0, .int .i64 a0_1, .slice A0_2 l0_2.length c0_2, .slice A0_3 l0_3.length c0_3]) (t := 30) ?hr ?_; (case hd => rfl); (case hg => rfl); (case hr => exact hrw); intro gb275 hg w5 hbox hb; have n0_ := am (below_step blw hb); have n1_ := am (hbox); have n2_ := am ((by rw [hg]; exact (below_size blw) : w.heap.size ≤ gb275)); have n3_ := n2_; clear HB; revert n0_ n1_ n2_ n3_; intro HB BK275 GW275 GE275; clear hb hbox hg; obtain ⟨hcz6_0, hcz6_1, hcz6_2, hcz6_3⟩ := cls4 BK275.out; obtain ⟨hfz6_0, hfz6_1, hfz6_2, hfz6_3⟩ := frz4 BK275.out) | ((with_reducible refine gate_callee (f := 31) rfl ?_); refine goesL_ (some 8) rfl rfl Try.func31 kr rfl #[.slice A0_2 l0_2.length c0_2, .int .i64 a1] rfl mpw ?_; (with_reducible refine (laws_heldStringS.calls k _ _ l0_2 a1 t276 _ ?side1 ?side2 A3.out).mono ?_); (case side1 => have X_ := HR0_2; exact cbl); (case side2 => exact HC0_2.out); rintro e w7 ⟨rfl, hb⟩; refine ⟨_, rfl, ?_⟩; have n0_ := am (blk_below (g := gb275) bkw hb); have n1_ := am (below_step blw hb); clear BK275; clear HB; revert n0_ n1_; intro BK275 HB; (try clear hb); (try clear hb2); (try clear hk); (try clear hi)))
 have H := HC4.out
 clear HC4
 by_cases c8 : t276 < 0
 ·rw [if_pos c8] at H
  have c8b0 : decide (t276 < 0) = true := decide_eq_true c8
  clear c8
  (first | rw [c8b0] | (simp only [i64_w, i32_w]; rw [c8b0]) | skip)
  obtain rfl := Option.some.inj H
  go_wp2
  go_ret
  exact ⟨rfw, blw⟩
 rw [if_neg c8] at H
 have c8b0 : decide (t276 < 0) = false := decide_eq_false c8
 clear c8
 (first | rw [c8b0] | (simp only [i64_w, i32_w]; rw [c8b0]) | skip)
 replace H := Option.bind_eq_some_iff.mp H
 obtain ⟨t277, A90, H⟩ := H
 replace H : (if t277 < 0 then (some (-1)) else (some t277)) = some r := H
 have A9 := am A90
 clear A90
 have HC10 := am H
 clear H
 obtain ⟨hcz11_0, hcz11_1, hcz11_2, hcz11_3⟩ := cls4 BK275.out
 obtain ⟨hfz11_0, hfz11_1, hfz11_2, hfz11_3⟩ := frz4 BK275.out
 go_upto_if 16 with (first | ((with_reducible refine gate_callee (f := 32) rfl ?_); refine goesL_ (some 14) rfl rfl Try.func32 kr rfl #[.slice A0_3 l0_3.length c0_3, .int .i64 t276] rfl mpw ?_; (with_reducible refine (laws_heldValueS.calls k _ _ l0_3 t276 t277 _ ?side1 ?side2 A9.out).mono ?_); (case side1 => have X_ := HR0_3; exact cbl); (case side2 => exact HC0_3.out); rintro e w12 ⟨rfl, hb⟩; refine ⟨_, rfl, ?_⟩; have n0_ := am (blk_below (g := gb275) bkw hb); have n1_ := am (below_step blw hb); clear BK275; clear HB; revert n0_ n1_; intro BK275 HB; (try clear hb); (try clear hb2); (try clear hk); (try clear hi)))
 have H := HC10.out
 clear HC10
 by_cases c13 : t277 < 0
 ·rw [if_pos c13] at H
  have c13b0 : decide (t277 < 0) = true := decide_eq_true c13
  clear c13
  (first | rw [c13b0] | (simp only [i64_w, i32_w]; rw [c13b0]) | skip)
  obtain rfl := Option.some.inj H
  go_wp2
  go_ret
  exact ⟨rfw, blw⟩
 rw [if_neg c13] at H
 have c13b0 : decide (t277 < 0) = false := decide_eq_false c13
 clear c13
 (first | rw [c13b0] | (simp only [i64_w, i32_w]; rw [c13b0]) | skip)
 obtain rfl := Option.some.inj H
 go_wp2
 go_ret
 exact ⟨rfw, blw⟩

-- NOT PRINTED: function 5 (laws_FnExactCanonValue)
end Go.Proofs.Ytonimhfahjediaa.Pk
end
section
namespace Go.Proofs.Ytonimhfahjediaa.Pk
set_option maxHeartbeats 8000000
set_option maxRecDepth 100000
open Go.RowKit Go.Proofs.Ytonimhfahjediaa.Ext Go.Proofs.YtonimhfahjediaaW.PrintWords Go.Proofs.YtonimhfahjediaaW.PrintLast Go.Proofs.YtonimhfahjediaaW.PrintMore
attribute [local go_sem] max2_int min2_int max_two min_two max_three min_three max_four min_four   -- for this text's walks alone
set_option linter.unusedVariables false
set_option linter.unusedSimpArgs false

/-! ### cmp_Or_int: function 35 -/
def cmp_Or_int.l0 : Nat → Int → List Int → Int → Int → Option (Int)
 | 0, _, _, _, _ => none
 | k + 1, x3, x6, x7, x8 => if x8 < x7 then (if 0 ≤ x8 then (if x8 < (x6.length : Int) then (if (rd x6 x8) = x3 then (cmp_Or_int.l0 k x3 x6 x7 (wrap64 (x8 + 1))) else (some (rd x6 x8))) else (none)) else (none)) else (some x3)
def cmp_Or_int.f (k : Nat) (l0 : List Int) : Option (Int) := cmp_Or_int.l0 k 0 l0 (l0.length : Int) 0
theorem cmp_Or_int.calls (k : Nat) (A0 : Option Addr) (c0 : Nat) (l0 : List Int) (r : Int) (w : World) (hr0 : Kd.C (Kd.int .i64) w A0 l0.length l0) (hc0 : l0.length ≤ c0) (h : cmp_Or_int.f k l0 = some r) :
  Calls Try.prog 35 #[.slice A0 l0.length c0] w fun e w' => e = .returned (.int .i64 r) ∧ Drawn0 w w' := by
 have HR0 := am hr0
 have HC0 := am hc0
 clear hr0 hc0
 have H : (cmp_Or_int.l0 k 0 l0 (l0.length : Int) 0) = some r := h
 clear h
 have H' := am H
 clear H
 go_enter Try.func35, Try.ntmps35
 go_wp2
 go_loopg [8] k (fun kq v8 w' => ∃ (x8_1 : Int), v8 = .int .i64 x8_1 ∧ Aside0 (cmp_Or_int.l0 kq 0 l0 (l0.length : Int) x8_1 = some r) ∧ Aside0 (kq ≤ k) ∧ Drawn0 w w')
 case atStart => exact ⟨(0), rfs, H', ⟨Nat.le_refl _⟩, by repeat (first | exact Drawn0.refl _ | apply Drawn0.step)⟩
 case round =>
  clear H'
  obtain ⟨x8_1, rfl, HA, HK1, ⟨m1, rfl⟩⟩ := hrel
  cases gk with
  | zero => exact absurd HA.out (by simp [cmp_Or_int.l0])
  | succ k1 =>
   have H := HA.out
   clear HA
   simp only [cmp_Or_int.l0] at H
   by_cases c2 : x8_1 < (l0.length : Int)
   case neg =>
    rw [if_neg c2] at H
    have c2b0 : decide (x8_1 < (l0.length : Int)) = false := decide_eq_false c2
    clear c2
    obtain rfl := Option.some.inj H
    go_wp2
    go_ret
    exact ⟨rfs, by repeat (first | exact Drawn0.refl _ | apply Drawn0.step)⟩
   rw [if_pos c2] at H
   have c2b0 : decide (x8_1 < (l0.length : Int)) = true := decide_eq_true c2
   clear c2
   by_cases c3 : 0 ≤ x8_1
   case neg =>
    rw [if_neg c3] at H
    exact absurd H (by simp)
   rw [if_pos c3] at H
   have c3b0 : decide (0 ≤ x8_1) = true := decide_eq_true c3
   clear c3
   by_cases c4 : x8_1 < (l0.length : Int)
   case neg =>
    rw [if_neg c4] at H
    exact absurd H (by simp)
   rw [if_pos c4] at H
   have c4b0 : decide (x8_1 < (l0.length : Int)) = true := decide_eq_true c4
   clear c4
   by_cases c5 : (rd l0 x8_1) = 0
   case neg =>
    rw [if_neg c5] at H
    have c5b0 : ((rd l0 x8_1) == 0) = false := beq_eq_false_iff_ne.mpr c5
    have c5b1 : ((rd l0 x8_1) != 0) = true := bne_iff_ne.mpr c5
    obtain rfl := Option.some.inj H
    have p219 : 0 ≤ (x8_1 : Int) := of_decide_eq_true asw
    have q219 : x8_1 < (l0.length : Int) := of_decide_eq_true asw
    obtain ⟨ad219, e219, hx219_0⟩ := Kd.at_int HR0.out x8_1 p219 q219
    cases e219
    replace p219 := eq_true p219
    replace q219 := eq_true q219
    go_wp2
    go_ret
    exact ⟨rfs, by repeat (first | exact Drawn0.refl _ | apply Drawn0.step)⟩
   rw [if_pos c5] at H
   have c5b0 : ((rd l0 x8_1) == 0) = true := beq_iff_eq.mpr c5
   have c5b1 : ((rd l0 x8_1) != 0) = false := bne_eq_false_iff_eq.mpr c5
   clear c5
   have H' := am H
   clear H
   have p219 : 0 ≤ (x8_1 : Int) := of_decide_eq_true asw
   have q219 : x8_1 < (l0.length : Int) := of_decide_eq_true asw
   obtain ⟨ad219, e219, hx219_0⟩ := Kd.at_int HR0.out x8_1 p219 q219
   cases e219
   replace p219 := eq_true p219
   replace q219 := eq_true q219
   go_wp2
   go_roundg k1
   case measure => have := HK1.out; omega
   case rel => exact ⟨(wrap64 (x8_1 + 1)), rfs, H', ⟨by have := HK1.out; omega⟩, by repeat (first | exact Drawn0.refl _ | apply Drawn0.step)⟩

/-! ### cmp_isNaN_int: function 40 -/
def cmp_isNaN_int.f (a0 : Int) : Option (Bool) := some (a0 != a0)
theorem cmp_isNaN_int.calls (a0 : Int) (r : Bool) (w : World) (h : cmp_isNaN_int.f a0 = some r) :
  Calls Try.prog 40 #[.int .i64 a0] w fun e w' => e = .returned (.bool r) ∧ Drawn0 w w' := by
 have H : (some (a0 != a0)) = some r := h
 clear h
 obtain rfl := Option.some.inj H
 go_enter Try.func40, Try.ntmps40
 go_wp2
 go_ret
 exact ⟨rfs, by repeat (first | exact Drawn0.refl _ | apply Drawn0.step)⟩

/-! ### cmp_Compare_int: function 36 -/
def cmp_Compare_int.f (a0 : Int) (a1 : Int) : Option (Int) := (cmp_isNaN_int.f a0).bind fun t220 => ((cmp_isNaN_int.f a1).bind fun t221 => (if t220 = true then (if t221 = true then (some 0) else (some (-1))) else (if t221 = true then (some 1) else (if a0 < a1 then (some (-1)) else (if a0 > a1 then (some 1) else (some 0))))))
theorem cmp_Compare_int.calls (a0 : Int) (a1 : Int) (r : Int) (w : World) (h : cmp_Compare_int.f a0 a1 = some r) :
  Calls Try.prog 36 #[.int .i64 a0, .int .i64 a1] w fun e w' => e = .returned (.int .i64 r) ∧ Drawn0 w w' := by
 have H : ((cmp_isNaN_int.f a0).bind fun t220 => ((cmp_isNaN_int.f a1).bind fun t221 => (if t220 = true then (if t221 = true then (some 0) else (some (-1))) else (if t221 = true then (some 1) else (if a0 < a1 then (some (-1)) else (if a0 > a1 then (some 1) else (some 0))))))) = some r := h
 clear h
 replace H := Option.bind_eq_some_iff.mp H
 obtain ⟨t220, A30, H⟩ := H
 replace H : ((cmp_isNaN_int.f a1).bind fun t221 => (if t220 = true then (if t221 = true then (some 0) else (some (-1))) else (if t221 = true then (some 1) else (if a0 < a1 then (some (-1)) else (if a0 > a1 then (some 1) else (some 0)))))) = some r := H
 have A3 := am A30
 clear A30
 replace H := Option.bind_eq_some_iff.mp H
 obtain ⟨t221, A40, H⟩ := H
 replace H : (if t220 = true then (if t221 = true then (some 0) else (some (-1))) else (if t221 = true then (some 1) else (if a0 < a1 then (some (-1)) else (if a0 > a1 then (some 1) else (some 0))))) = some r := H
 have A4 := am A40
 clear A40
 have HC5 := am H
 clear H
 go_enter Try.func36, Try.ntmps36
 go_upto_if 11 with (first | ((with_reducible refine gate_callee (f := 40) rfl ?_); refine goesL_ (some 8) rfl rfl Try.func40 kr rfl #[.int .i64 a0] rfl mpw ?_; (with_reducible refine (cmp_isNaN_int.calls a0 t220 _ A3.out).mono ?_); rintro e w' ⟨rfl, ⟨nd, rfl⟩⟩; refine ⟨_, rfl, ?_⟩) | ((with_reducible refine gate_callee (f := 40) rfl ?_); refine goesL_ (some 10) rfl rfl Try.func40 kr rfl #[.int .i64 a1] rfl mpw ?_; (with_reducible refine (cmp_isNaN_int.calls a1 t221 _ A4.out).mono ?_); rintro e w' ⟨rfl, ⟨nd, rfl⟩⟩; refine ⟨_, rfl, ?_⟩))
 have H := HC5.out
 clear HC5
 by_cases c6 : t220 = true
 ·subst c6
  have H1 : (if t221 = true then (some 0) else (some (-1))) = some r := by rw [if_pos rfl] at H; exact H
  clear H
  have H := H1
  clear H1
  by_cases c7 : t221 = true
  ·subst c7
   have H1 : (some 0) = some r := by rw [if_pos rfl] at H; exact H
   clear H
   have H := H1
   clear H1
   obtain rfl := Option.some.inj H
   go_wp2
   go_ret
   exact ⟨rfs, by repeat (first | exact Drawn0.refl _ | apply Drawn0.step)⟩
  replace c7 := Bool.eq_false_iff.mpr c7
  subst c7
  have H1 : (some (-1)) = some r := by rw [if_neg (show ¬ (false = true) by decide)] at H; exact H
  clear H
  have H := H1
  clear H1
  obtain rfl := Option.some.inj H
  go_wp2
  go_ret
  exact ⟨rfs, by repeat (first | exact Drawn0.refl _ | apply Drawn0.step)⟩
 replace c6 := Bool.eq_false_iff.mpr c6
 subst c6
 have H1 : (if t221 = true then (some 1) else (if a0 < a1 then (some (-1)) else (if a0 > a1 then (some 1) else (some 0)))) = some r := by rw [if_neg (show ¬ (false = true) by decide)] at H; exact H
 clear H
 have H := H1
 clear H1
 by_cases c8 : t221 = true
 ·subst c8
  have H1 : (some 1) = some r := by rw [if_pos rfl] at H; exact H
  clear H
  have H := H1
  clear H1
  obtain rfl := Option.some.inj H
  go_wp2
  go_ret
  exact ⟨rfs, by repeat (first | exact Drawn0.refl _ | apply Drawn0.step)⟩
 replace c8 := Bool.eq_false_iff.mpr c8
 subst c8
 have H1 : (if a0 < a1 then (some (-1)) else (if a0 > a1 then (some 1) else (some 0))) = some r := by rw [if_neg (show ¬ (false = true) by decide)] at H; exact H
 clear H
 have H := H1
 clear H1
 by_cases c9 : a0 < a1
 ·rw [if_pos c9] at H
  have c9b0 : decide (a0 < a1) = true := decide_eq_true c9
  clear c9
  (first | rw [c9b0] | (simp only [i64_w, i32_w]; rw [c9b0]) | skip)
  obtain rfl := Option.some.inj H
  go_wp2
  go_ret
  exact ⟨rfs, by repeat (first | exact Drawn0.refl _ | apply Drawn0.step)⟩
 rw [if_neg c9] at H
 have c9b0 : decide (a0 < a1) = false := decide_eq_false c9
 clear c9
 (first | rw [c9b0] | (simp only [i64_w, i32_w]; rw [c9b0]) | skip)
 by_cases c10 : a0 > a1
 ·rw [if_pos c10] at H
  have c10b0 : decide (a1 < a0) = true := decide_eq_true c10
  clear c10
  obtain rfl := Option.some.inj H
  go_wp2
  go_ret
  exact ⟨rfs, by repeat (first | exact Drawn0.refl _ | apply Drawn0.step)⟩
 rw [if_neg c10] at H
 have c10b0 : decide (a1 < a0) = false := decide_eq_false c10
 clear c10
 obtain rfl := Option.some.inj H
 go_wp2
 go_ret
 exact ⟨rfs, by repeat (first | exact Drawn0.refl _ | apply Drawn0.step)⟩

/-! ### cmp_isNaN_string: function 44 -/
def cmp_isNaN_string.f (a0 : ByteArray) : Option (Bool) := some (a0.toList != a0.toList)
theorem cmp_isNaN_string.calls (a0 : ByteArray) (r : Bool) (w : World) (h : cmp_isNaN_string.f a0 = some r) :
  Calls Try.prog 44 #[.string a0] w fun e w' => e = .returned (.bool r) ∧ Drawn0 w w' := by
 have H : (some (a0.toList != a0.toList)) = some r := h
 clear h
 obtain rfl := Option.some.inj H
 go_enter Try.func44, Try.ntmps44
 go_wp2
 go_ret
 exact ⟨rfs, by repeat (first | exact Drawn0.refl _ | apply Drawn0.step)⟩

/-! ### cmp_Compare_string: function 41 -/
def cmp_Compare_string.f (a0 : ByteArray) (a1 : ByteArray) : Option (Int) := (cmp_isNaN_string.f a0).bind fun t222 => ((cmp_isNaN_string.f a1).bind fun t223 => (if t222 = true then (if t223 = true then (some 0) else (some (-1))) else (if t223 = true then (some 1) else (if (Op.bytesLess a0.toList a1.toList) = true then (some (-1)) else (if (Op.bytesLess a1.toList a0.toList) = true then (some 1) else (some 0))))))
theorem cmp_Compare_string.calls (a0 : ByteArray) (a1 : ByteArray) (r : Int) (w : World) (h : cmp_Compare_string.f a0 a1 = some r) :
  Calls Try.prog 41 #[.string a0, .string a1] w fun e w' => e = .returned (.int .i64 r) ∧ Drawn0 w w' := by
 have H : ((cmp_isNaN_string.f a0).bind fun t222 => ((cmp_isNaN_string.f a1).bind fun t223 => (if t222 = true then (if t223 = true then (some 0) else (some (-1))) else (if t223 = true then (some 1) else (if (Op.bytesLess a0.toList a1.toList) = true then (some (-1)) else (if (Op.bytesLess a1.toList a0.toList) = true then (some 1) else (some 0))))))) = some r := h
 clear h
 replace H := Option.bind_eq_some_iff.mp H
 obtain ⟨t222, A30, H⟩ := H
 replace H : ((cmp_isNaN_string.f a1).bind fun t223 => (if t222 = true then (if t223 = true then (some 0) else (some (-1))) else (if t223 = true then (some 1) else (if (Op.bytesLess a0.toList a1.toList) = true then (some (-1)) else (if (Op.bytesLess a1.toList a0.toList) = true then (some 1) else (some 0)))))) = some r := H
 have A3 := am A30
 clear A30
 replace H := Option.bind_eq_some_iff.mp H
 obtain ⟨t223, A40, H⟩ := H
 replace H : (if t222 = true then (if t223 = true then (some 0) else (some (-1))) else (if t223 = true then (some 1) else (if (Op.bytesLess a0.toList a1.toList) = true then (some (-1)) else (if (Op.bytesLess a1.toList a0.toList) = true then (some 1) else (some 0))))) = some r := H
 have A4 := am A40
 clear A40
 have HC5 := am H
 clear H
 go_enter Try.func41, Try.ntmps41
 go_upto_if 11 with (first | ((with_reducible refine gate_callee (f := 44) rfl ?_); refine goesL_ (some 8) rfl rfl Try.func44 kr rfl #[.string a0] rfl mpw ?_; (with_reducible refine (cmp_isNaN_string.calls a0 t222 _ A3.out).mono ?_); rintro e w' ⟨rfl, ⟨nd, rfl⟩⟩; refine ⟨_, rfl, ?_⟩) | ((with_reducible refine gate_callee (f := 44) rfl ?_); refine goesL_ (some 10) rfl rfl Try.func44 kr rfl #[.string a1] rfl mpw ?_; (with_reducible refine (cmp_isNaN_string.calls a1 t223 _ A4.out).mono ?_); rintro e w' ⟨rfl, ⟨nd, rfl⟩⟩; refine ⟨_, rfl, ?_⟩))
 have H := HC5.out
 clear HC5
 by_cases c6 : t222 = true
 ·subst c6
  have H1 : (if t223 = true then (some 0) else (some (-1))) = some r := by rw [if_pos rfl] at H; exact H
  clear H
  have H := H1
  clear H1
  by_cases c7 : t223 = true
  ·subst c7
   have H1 : (some 0) = some r := by rw [if_pos rfl] at H; exact H
   clear H
   have H := H1
   clear H1
   obtain rfl := Option.some.inj H
   go_wp2
   go_ret
   exact ⟨rfs, by repeat (first | exact Drawn0.refl _ | apply Drawn0.step)⟩
  replace c7 := Bool.eq_false_iff.mpr c7
  subst c7
  have H1 : (some (-1)) = some r := by rw [if_neg (show ¬ (false = true) by decide)] at H; exact H
  clear H
  have H := H1
  clear H1
  obtain rfl := Option.some.inj H
  go_wp2
  go_ret
  exact ⟨rfs, by repeat (first | exact Drawn0.refl _ | apply Drawn0.step)⟩
 replace c6 := Bool.eq_false_iff.mpr c6
 subst c6
 have H1 : (if t223 = true then (some 1) else (if (Op.bytesLess a0.toList a1.toList) = true then (some (-1)) else (if (Op.bytesLess a1.toList a0.toList) = true then (some 1) else (some 0)))) = some r := by rw [if_neg (show ¬ (false = true) by decide)] at H; exact H
 clear H
 have H := H1
 clear H1
 by_cases c8 : t223 = true
 ·subst c8
  have H1 : (some 1) = some r := by rw [if_pos rfl] at H; exact H
  clear H
  have H := H1
  clear H1
  obtain rfl := Option.some.inj H
  go_wp2
  go_ret
  exact ⟨rfs, by repeat (first | exact Drawn0.refl _ | apply Drawn0.step)⟩
 replace c8 := Bool.eq_false_iff.mpr c8
 subst c8
 have H1 : (if (Op.bytesLess a0.toList a1.toList) = true then (some (-1)) else (if (Op.bytesLess a1.toList a0.toList) = true then (some 1) else (some 0))) = some r := by rw [if_neg (show ¬ (false = true) by decide)] at H; exact H
 clear H
 have H := H1
 clear H1
 by_cases c9 : (Op.bytesLess a0.toList a1.toList) = true
 ·rw [if_pos c9] at H
  have c9b0 : (Op.bytesLess a0.toList a1.toList) = true := c9
  clear c9
  (first | rw [c9b0] | (simp only [i64_w, i32_w]; rw [c9b0]) | skip)
  obtain rfl := Option.some.inj H
  go_wp2
  go_ret
  exact ⟨rfs, by repeat (first | exact Drawn0.refl _ | apply Drawn0.step)⟩
 rw [if_neg c9] at H
 have c9b0 : (Op.bytesLess a0.toList a1.toList) = false := by simpa using c9
 clear c9
 (first | rw [c9b0] | (simp only [i64_w, i32_w]; rw [c9b0]) | skip)
 by_cases c10 : (Op.bytesLess a1.toList a0.toList) = true
 ·rw [if_pos c10] at H
  have c10b0 : (Op.bytesLess a1.toList a0.toList) = true := c10
  clear c10
  obtain rfl := Option.some.inj H
  go_wp2
  go_ret
  exact ⟨rfs, by repeat (first | exact Drawn0.refl _ | apply Drawn0.step)⟩
 rw [if_neg c10] at H
 have c10b0 : (Op.bytesLess a1.toList a0.toList) = false := by simpa using c10
 clear c10
 obtain rfl := Option.some.inj H
 go_wp2
 go_ret
 exact ⟨rfs, by repeat (first | exact Drawn0.refl _ | apply Drawn0.step)⟩

/-! ### slices_Compare_string_string: function 37 -/
def slices_Compare_string_string.l0 : Nat → List ByteArray → List ByteArray → List ByteArray → Int → Int → Option (Int)
 | 0, _, _, _, _, _ => none
 | k + 1, x0, x1, x9, x10, x11 => if x11 < x10 then (if 0 ≤ x11 then (if x11 < (x9.length : Int) then (if x11 ≥ (x1.length : Int) then (some 1) else (if x11 < (x1.length : Int) then ((cmp_Compare_string.f (rdOf ByteArray.empty x9 x11) (rdOf ByteArray.empty x1 x11)).bind fun t226 => (if t226 = 0 then (slices_Compare_string_string.l0 k x0 x1 x9 x10 (wrap64 (x11 + 1))) else (some t226))) else (none))) else (none)) else (none)) else (if (x0.length : Int) < (x1.length : Int) then (some (-1)) else (some 0))
def slices_Compare_string_string.f (k : Nat) (l0 : List ByteArray) (l1 : List ByteArray) : Option (Int) := slices_Compare_string_string.l0 k l0 l1 l0 (l0.length : Int) 0
theorem slices_Compare_string_string.calls (k : Nat) (A0 : Option Addr) (c0 : Nat) (l0 : List ByteArray) (A1 : Option Addr) (c1 : Nat) (l1 : List ByteArray) (r : Int) (w : World) (hr0 : Kd.C Kd.string w A0 l0.length l0) (hc0 : l0.length ≤ c0) (hr1 : Kd.C Kd.string w A1 l1.length l1) (hc1 : l1.length ≤ c1) (h : slices_Compare_string_string.f k l0 l1 = some r) :
  Calls Try.prog 37 #[.slice A0 l0.length c0, .slice A1 l1.length c1] w fun e w' => e = .returned (.int .i64 r) ∧ Drawn0 w w' := by
 have HR0 := am hr0
 have HC0 := am hc0
 clear hr0 hc0
 have HR1 := am hr1
 have HC1 := am hc1
 clear hr1 hc1
 have H : (slices_Compare_string_string.l0 k l0 l1 l0 (l0.length : Int) 0) = some r := h
 clear h
 have H' := am H
 clear H
 go_enter Try.func37, Try.ntmps37
 go_wp2
 go_loopg [11] k (fun kq v11 w' => ∃ (x11_1 : Int), v11 = .int .i64 x11_1 ∧ Aside0 (slices_Compare_string_string.l0 kq l0 l1 l0 (l0.length : Int) x11_1 = some r) ∧ Aside0 (kq ≤ k) ∧ Drawn0 w w')
 case atStart => exact ⟨(0), rfs, H', ⟨Nat.le_refl _⟩, by repeat (first | exact Drawn0.refl _ | apply Drawn0.step)⟩
 case round =>
  clear H'
  (try clear c1); (try clear p2)
  obtain ⟨x11_1, rfl, HA, HK1, ⟨m1, rfl⟩⟩ := hrel
  cases gk with
  | zero => exact absurd HA.out (by simp [slices_Compare_string_string.l0])
  | succ k1 =>
   have H := HA.out
   clear HA
   simp only [slices_Compare_string_string.l0] at H
   by_cases c3 : x11_1 < (l0.length : Int)
   case neg =>
    rw [if_neg c3] at H
    have c3b0 : decide (x11_1 < (l0.length : Int)) = false := decide_eq_false c3
    clear c3
    by_cases c11 : (l0.length : Int) < (l1.length : Int)
    ·rw [if_pos c11] at H
     have c11b0 : decide ((l0.length : Int) < (l1.length : Int)) = true := decide_eq_true c11
     have c11b1 : decide (l0.length < l1.length) = true := decide_eq_true (Int.ofNat_lt.mp c11)
     clear c11
     obtain rfl := Option.some.inj H
     go_wp2
     go_ret
     exact ⟨rfs, by repeat (first | exact Drawn0.refl _ | apply Drawn0.step)⟩
    rw [if_neg c11] at H
    have c11b0 : decide ((l0.length : Int) < (l1.length : Int)) = false := decide_eq_false c11
    have c11b1 : decide (l0.length < l1.length) = false := decide_eq_false (fun h => c11 (Int.ofNat_lt.mpr h))
    clear c11
    obtain rfl := Option.some.inj H
    go_wp2
    go_ret
    exact ⟨rfs, by repeat (first | exact Drawn0.refl _ | apply Drawn0.step)⟩
   rw [if_pos c3] at H
   have c3b0 : decide (x11_1 < (l0.length : Int)) = true := decide_eq_true c3
   clear c3
   by_cases c4 : 0 ≤ x11_1
   case neg =>
    rw [if_neg c4] at H
    exact absurd H (by simp)
   rw [if_pos c4] at H
   have c4b0 : decide (0 ≤ x11_1) = true := decide_eq_true c4
   clear c4
   by_cases c5 : x11_1 < (l0.length : Int)
   case neg =>
    rw [if_neg c5] at H
    exact absurd H (by simp)
   rw [if_pos c5] at H
   have c5b0 : decide (x11_1 < (l0.length : Int)) = true := decide_eq_true c5
   clear c5
   by_cases c6 : x11_1 ≥ (l1.length : Int)
   ·rw [if_pos c6] at H
    have c6b0 : decide ((l1.length : Int) ≤ x11_1) = true := decide_eq_true c6
    clear c6
    obtain rfl := Option.some.inj H
    have p224 : 0 ≤ (x11_1 : Int) := of_decide_eq_true asw
    have q224 : x11_1 < (l0.length : Int) := of_decide_eq_true asw
    obtain ⟨ad224, e224, hx224_0⟩ := Kd.at_string HR0.out x11_1 p224 q224
    cases e224
    replace p224 := eq_true p224
    replace q224 := eq_true q224
    go_wp2
    go_ret
    exact ⟨rfs, by repeat (first | exact Drawn0.refl _ | apply Drawn0.step)⟩
   rw [if_neg c6] at H
   have c6b0 : decide ((l1.length : Int) ≤ x11_1) = false := decide_eq_false c6
   clear c6
   by_cases c7 : x11_1 < (l1.length : Int)
   case neg =>
    rw [if_neg c7] at H
    exact absurd H (by simp)
   rw [if_pos c7] at H
   have c7b0 : decide (x11_1 < (l1.length : Int)) = true := decide_eq_true c7
   clear c7
   replace H := Option.bind_eq_some_iff.mp H
   obtain ⟨t226, A80, H⟩ := H
   replace H : (if t226 = 0 then (slices_Compare_string_string.l0 k1 l0 l1 l0 (l0.length : Int) (wrap64 (x11_1 + 1))) else (some t226)) = some r := H
   have A8 := am A80
   clear A80
   have HC9 := am H
   clear H
   have p224 : 0 ≤ (x11_1 : Int) := of_decide_eq_true asw
   have q224 : x11_1 < (l0.length : Int) := of_decide_eq_true asw
   obtain ⟨ad224, e224, hx224_0⟩ := Kd.at_string HR0.out x11_1 p224 q224
   cases e224
   replace p224 := eq_true p224
   replace q224 := eq_true q224
   have p225 : 0 ≤ (x11_1 : Int) := of_decide_eq_true asw
   have q225 : x11_1 < (l1.length : Int) := of_decide_eq_true asw
   obtain ⟨ad225, e225, hx225_0⟩ := Kd.at_string HR1.out x11_1 p225 q225
   cases e225
   replace p225 := eq_true p225
   replace q225 := eq_true q225
   go_upto_if 28 with (first | ((with_reducible refine gate_callee (f := 41) rfl ?_); refine goesL_ (some 26) rfl rfl Try.func41 kr rfl #[.string (rdOf ByteArray.empty l0 x11_1), .string (rdOf ByteArray.empty l1 x11_1)] rfl mpw ?_; (with_reducible refine (cmp_Compare_string.calls (rdOf ByteArray.empty l0 x11_1) (rdOf ByteArray.empty l1 x11_1) t226 _ A8.out).mono ?_); rintro e w' ⟨rfl, ⟨nd, rfl⟩⟩; refine ⟨_, rfl, ?_⟩))
   have H := HC9.out
   clear HC9
   by_cases c10 : t226 = 0
   case neg =>
    rw [if_neg c10] at H
    have c10b0 : (t226 == 0) = false := beq_eq_false_iff_ne.mpr c10
    have c10b1 : (t226 != 0) = true := bne_iff_ne.mpr c10
    (first | rw [c10b0] | (simp only [i64_w, i32_w]; rw [c10b0]) | (rw [c10b1]; (try simp only [Bool.not_true, Bool.not_false])) | skip)
    obtain rfl := Option.some.inj H
    go_wp2
    go_ret
    exact ⟨rfs, by repeat (first | exact Drawn0.refl _ | apply Drawn0.step)⟩
   rw [if_pos c10] at H
   have c10b0 : (t226 == 0) = true := beq_iff_eq.mpr c10
   have c10b1 : (t226 != 0) = false := bne_eq_false_iff_eq.mpr c10
   clear c10
   (first | rw [c10b0] | (simp only [i64_w, i32_w]; rw [c10b0]) | (rw [c10b1]; (try simp only [Bool.not_true, Bool.not_false])) | skip)
   have H' := am H
   clear H
   go_wp2
   go_roundg k1
   case measure => have := HK1.out; omega
   case rel => exact ⟨(wrap64 (x11_1 + 1)), rfs, H', ⟨by have := HK1.out; omega⟩, by repeat (first | exact Drawn0.refl _ | apply Drawn0.step)⟩

end Go.Proofs.Ytonimhfahjediaa.Pk
end
section
namespace Go.Proofs.Ytonimhfahjediaa.Pk
open Go.RowKit Go.Proofs.Ytonimhfahjediaa.Ext Go.Proofs.YtonimhfahjediaaW.PrintWords Go.Proofs.YtonimhfahjediaaW.PrintLast Go.Proofs.YtonimhfahjediaaW.PrintMore
attribute [local go_sem] max2_int min2_int max_two min_two max_three min_three max_four min_four   -- for this text's walks alone
set_option linter.unusedVariables false
set_option linter.unusedSimpArgs false

/-! ### impl_CompareValues: function 22 -/
mutual
def impl_CompareValues.l0 : Nat → Int → Int → Int → Int → List ByteArray → List (S30) → Int → Int → List ByteArray → List (S30) → Option (Int)
 | 0, _, _, _, _, _, _, _, _, _, _ => none
 | k + 1, x5, x6, x228000, x228001, x228002, x228003, x229000, x229001, x229002, x229003 => if x5 = 0 then (if x6 < (x228003.length : Int) then (if 0 ≤ x6 then (if x6 < (x229003.length : Int) then ((impl_CompareValues.f k ((rd_T30 x228003 x6).f0) ((rd_T30 x228003 x6).f1) ((rd_T30 x228003 x6).f2) ((rd_T30 x228003 x6).f3) ((rd_T30 x229003 x6).f0) ((rd_T30 x229003 x6).f1) ((rd_T30 x229003 x6).f2) ((rd_T30 x229003 x6).f3)).bind fun t239 => (impl_CompareValues.l0 k t239 (wrap64 (x6 + 1)) x228000 x228001 x228002 x228003 x229000 x229001 x229002 x229003)) else (none)) else (none)) else (some x5)) else (some x5)
def impl_CompareValues.f : Nat → Int → Int → List ByteArray → List (S30) → Int → Int → List ByteArray → List (S30) → Option (Int)
 | 0, _, _, _, _, _, _, _, _ => none
 | k + 1, a0_0, a0_1, l0_2, l0_3, a1_0, a1_1, l1_2, l1_3 => (cmp_Compare_int.f a0_0 a1_0).bind fun t229 => ((cmp_Compare_int.f a0_1 a1_1).bind fun t230 => ((cmp_Compare_int.f (l0_3.length : Int) (l1_3.length : Int)).bind fun t231 => ((slices_Compare_string_string.f k l0_2 l1_2).bind fun t232 => ((cmp_Or_int.f k (([t229, t230, t231, t232] : List Int))).bind fun t236 => (impl_CompareValues.l0 k t236 0 a0_0 a0_1 l0_2 l0_3 a1_0 a1_1 l1_2 l1_3)))))
end
def impl_CompareValues.T1 : Bool × List (List Nat × List Nat) := (true, [([], []), ([0], [0]), ([], []), ([2], [2]), ([1, 3], [1, 3]), ([], []), ([5], [5]), ([], []), ([7], [7]), ([6, 8, 4], [6, 8]), ([], []), ([10], [10]), ([11], [11]), ([], []), ([13], [13]), ([14], [14]), ([12, 15, 9], [12, 15]), ([], []), ([17], [17]), ([], []), ([19], [19]), ([18, 20, 16], [18, 20]), ([4, 9, 16, 21], [4, 9, 16, 21]), ([22, 21], [22]), ([23, 23, 0, 1, 2, 3, 4, 5, 6, 7, 8, 9, 10, 11, 12, 13, 14, 15, 16, 17, 18, 19, 20, 21, 22, 23], [23])])
def impl_CompareValues.B1 : List Nat := [0, 1, 0, 4, 15, 0, 32, 0, 128, 511, 0, 1024, 3072, 0, 8192, 24576, 65535, 0, 131072, 0, 524288, 2097151, 4194303, 8388607, 16777215]
theorem impl_CompareValues.tab1 : rtab .any (opsOf Try.f22 1) = impl_CompareValues.T1 := by kernel_rfl
theorem impl_CompareValues.bits1 : waitsOk impl_CompareValues.T1.2 impl_CompareValues.B1 = true := by kernel_rfl
def impl_CompareValues.T5 : Bool × List (List Nat × List Nat) := (true, [([], []), ([0], [0]), ([], []), ([1, 2], [1, 2]), ([3], [3]), ([], []), ([5], [5]), ([], []), ([6, 7], [6, 7]), ([8], [8]), ([4, 9], [4, 9]), ([10, 10, 0, 1, 2, 3, 4, 5, 6, 7, 8, 9, 10], [10])])
def impl_CompareValues.B5 : List Nat := [0, 1, 0, 7, 15, 0, 32, 0, 224, 480, 1023, 2047]
theorem impl_CompareValues.tab5 : rtab .any (opsOf Try.f22 5) = impl_CompareValues.T5 := by kernel_rfl
theorem impl_CompareValues.bits5 : waitsOk impl_CompareValues.T5.2 impl_CompareValues.B5 = true := by kernel_rfl
set_option maxHeartbeats 8000000 in
set_option maxRecDepth 100000 in
theorem impl_CompareValues.calls (k : Nat) : ∀ (a0_0 : Int) (a0_1 : Int) (A0_2 : Option Addr) (c0_2 : Nat) (l0_2 : List ByteArray) (A0_3 : Option Addr) (c0_3 : Nat) (l0_3 : List (S30)) (a1_0 : Int) (a1_1 : Int) (A1_2 : Option Addr) (c1_2 : Nat) (l1_2 : List ByteArray) (A1_3 : Option Addr) (c1_3 : Nat) (l1_3 : List (S30)) (r : Int) (w : World) (hr0_2 : Kd.C Kd.string w A0_2 l0_2.length l0_2) (hc0_2 : l0_2.length ≤ c0_2) (hr0_3 : Kd.C k30 w A0_3 l0_3.length l0_3) (hc0_3 : l0_3.length ≤ c0_3) (hr1_2 : Kd.C Kd.string w A1_2 l1_2.length l1_2) (hc1_2 : l1_2.length ≤ c1_2) (hr1_3 : Kd.C k30 w A1_3 l1_3.length l1_3) (hc1_3 : l1_3.length ≤ c1_3) (h : impl_CompareValues.f k a0_0 a0_1 l0_2 l0_3 a1_0 a1_1 l1_2 l1_3 = some r),
  Calls Try.prog 22 #[.agg #[.int .i64 a0_0, .int .i64 a0_1, .slice A0_2 l0_2.length c0_2, .slice A0_3 l0_3.length c0_3], .agg #[.int .i64 a1_0, .int .i64 a1_1, .slice A1_2 l1_2.length c1_2, .slice A1_3 l1_3.length c1_3]] w fun e w' => e = .returned (.int .i64 r) ∧ Below w.heap.size w w' := by
 induction k using Nat.strongRecOn with
 | _ k ih =>
 intro a0_0 a0_1 A0_2 c0_2 l0_2 A0_3 c0_3 l0_3 a1_0 a1_1 A1_2 c1_2 l1_2 A1_3 c1_3 l1_3 r w hr0_2 hc0_2 hr0_3 hc0_3 hr1_2 hc1_2 hr1_3 hc1_3 h
 cases k with
 | zero => exact absurd h (by simp [impl_CompareValues.f])
 | succ k =>
 simp only [impl_CompareValues.f] at h
 have hu30 := Try.underlying30
 have HR0_2 := am hr0_2
 have HC0_2 := am hc0_2
 clear hr0_2 hc0_2
 have HR0_3 := am hr0_3
 have HC0_3 := am hc0_3
 clear hr0_3 hc0_3
 have HR1_2 := am hr1_2
 have HC1_2 := am hc1_2
 clear hr1_2 hc1_2
 have HR1_3 := am hr1_3
 have HC1_3 := am hc1_3
 clear hr1_3 hc1_3
 have HB := am (Below.refl w.heap.size w)
 have H : ((cmp_Compare_int.f a0_0 a1_0).bind fun t229 => ((cmp_Compare_int.f a0_1 a1_1).bind fun t230 => ((cmp_Compare_int.f (l0_3.length : Int) (l1_3.length : Int)).bind fun t231 => ((slices_Compare_string_string.f k l0_2 l1_2).bind fun t232 => ((cmp_Or_int.f k (([t229, t230, t231, t232] : List Int))).bind fun t236 => (impl_CompareValues.l0 k t236 0 a0_0 a0_1 l0_2 l0_3 a1_0 a1_1 l1_2 l1_3)))))) = some r := h
 clear h
 replace H := Option.bind_eq_some_iff.mp H
 obtain ⟨t229, A30, H⟩ := H
 replace H : ((cmp_Compare_int.f a0_1 a1_1).bind fun t230 => ((cmp_Compare_int.f (l0_3.length : Int) (l1_3.length : Int)).bind fun t231 => ((slices_Compare_string_string.f k l0_2 l1_2).bind fun t232 => ((cmp_Or_int.f k (([t229, t230, t231, t232] : List Int))).bind fun t236 => (impl_CompareValues.l0 k t236 0 a0_0 a0_1 l0_2 l0_3 a1_0 a1_1 l1_2 l1_3))))) = some r := H
 have A3 := am A30
 clear A30
 replace H := Option.bind_eq_some_iff.mp H
 obtain ⟨t230, A40, H⟩ := H
 replace H : ((cmp_Compare_int.f (l0_3.length : Int) (l1_3.length : Int)).bind fun t231 => ((slices_Compare_string_string.f k l0_2 l1_2).bind fun t232 => ((cmp_Or_int.f k (([t229, t230, t231, t232] : List Int))).bind fun t236 => (impl_CompareValues.l0 k t236 0 a0_0 a0_1 l0_2 l0_3 a1_0 a1_1 l1_2 l1_3)))) = some r := H
 have A4 := am A40
 clear A40
 replace H := Option.bind_eq_some_iff.mp H
 obtain ⟨t231, A50, H⟩ := H
 replace H : ((slices_Compare_string_string.f k l0_2 l1_2).bind fun t232 => ((cmp_Or_int.f k (([t229, t230, t231, t232] : List Int))).bind fun t236 => (impl_CompareValues.l0 k t236 0 a0_0 a0_1 l0_2 l0_3 a1_0 a1_1 l1_2 l1_3))) = some r := H
 have A5 := am A50
 clear A50
 replace H := Option.bind_eq_some_iff.mp H
 obtain ⟨t232, A60, H⟩ := H
 replace H : ((cmp_Or_int.f k (([t229, t230, t231, t232] : List Int))).bind fun t236 => (impl_CompareValues.l0 k t236 0 a0_0 a0_1 l0_2 l0_3 a1_0 a1_1 l1_2 l1_3)) = some r := H
 have A6 := am A60
 clear A60
 obtain ⟨y233, hy233⟩ : ∃ y_ : List Int, y_ = (([t229, t230, t231, t232] : List Int)) := ⟨_, rfl⟩
 replace H : ((cmp_Or_int.f k y233).bind fun t236 => (impl_CompareValues.l0 k t236 0 a0_0 a0_1 l0_2 l0_3 a1_0 a1_1 l1_2 l1_3)) = some r := by first | (rw [hy233]; with_reducible exact H) | (have H2_ := (Option.bind_some _ _).symm.trans H; rw [hy233]; with_reducible exact H2_) | (have H2_ := (Option.bind_some _ _).symm.trans H; with_reducible exact H2_) | with_reducible exact H | (rw [hy233]; exact H) | exact H
 have Ny233 := am hy233
 clear hy233
 replace H := Option.bind_eq_some_iff.mp H
 obtain ⟨t236, A70, H⟩ := H
 replace H : (impl_CompareValues.l0 k t236 0 a0_0 a0_1 l0_2 l0_3 a1_0 a1_1 l1_2 l1_3) = some r := H
 have A7 := am A70
 clear A70
 have H' := am H
 clear H
 go_enter Try.func22, Try.ntmps22
 try go_wp2_with (first | ((with_reducible refine gate_dst (N := 2) rfl ?_); (try (refine gate_guard (by rfl) ?_; dsimp only)); refine box_event ?hg (N := 2) ?hd (cs := #[.int .i64 a0_0, .int .i64 a0_1, .slice A0_2 l0_2.length c0_2, .slice A0_3 l0_3.length c0_3]) (t := 30) ?hr ?_; (case hd => rfl); (case hg => rfl); (case hr => exact hrw); intro gb227 hg w8 hbox hb; have n0_ := am (below_step blw hb); have n1_ := am (hbox); have n2_ := am ((by rw [hg]; exact (below_size blw) : w.heap.size ≤ gb227)); have n3_ := n2_; clear HB; revert n0_ n1_ n2_ n3_; intro HB BK227 GW227 GE227; clear hb hbox hg) | ((with_reducible refine gate_dst (N := 3) rfl ?_); (try (refine gate_guard (by rfl) ?_; dsimp only)); refine box_event ?hg (N := 3) ?hd (cs := #[.int .i64 a1_0, .int .i64 a1_1, .slice A1_2 l1_2.length c1_2, .slice A1_3 l1_3.length c1_3]) (t := 30) ?hr ?_; (case hd => rfl); (case hg => rfl); (case hr => exact hrw); intro gb228 hg w9 hbox hb; have n0_ := am (blk_below (g := gb227) bkw hb); have n1_ := am (below_step blw hb); have n2_ := am (hbox); have n3_ := am ((by rw [hg]; exact (below_size blw) : w.heap.size ≤ gb228)); have n4_ := n3_; have n5_ := am ((by rw [hg]; exact Nat.ne_of_lt (blk_lt (g := gb227) bkw) : gb227 ≠ gb228)); have n6_ := am ((by rw [hg]; exact Nat.ne_of_gt (blk_lt (g := gb227) bkw) : gb228 ≠ gb227)); clear BK227; clear HB; revert n0_ n1_ n2_ n3_ n4_ n5_ n6_; intro BK227 HB BK228 GW228 GE228 NB227_228 NB228_227; clear hb hbox hg))
 have n0_ := am (blk_drew BK227.out)
 have n1_ := am (blk_drew BK228.out)
 have n2_ := am (below_drew1 HB.out)
 clear BK227
 clear BK228
 clear HB
 revert n0_ n1_ n2_
 intro BK227 BK228 HB
 refine start_ (n := 25) (S := fun w' => w'.cell? ⟨gb227, 0, none⟩ = some (.int .i64 a0_0) ∧ w'.cell? ⟨gb227, 1, none⟩ = some (.int .i64 a0_1) ∧ w'.cell? ⟨gb227, 2, none⟩ = some (.slice A0_2 l0_2.length c0_2) ∧ w'.cell? ⟨gb227, 3, none⟩ = some (.slice A0_3 l0_3.length c0_3) ∧ w'.cell? ⟨gb228, 0, none⟩ = some (.int .i64 a1_0) ∧ w'.cell? ⟨gb228, 1, none⟩ = some (.int .i64 a1_1) ∧ w'.cell? ⟨gb228, 2, none⟩ = some (.slice A1_2 l1_2.length c1_2) ∧ w'.cell? ⟨gb228, 3, none⟩ = some (.slice A1_3 l1_3.length c1_3)) (ds := []) #[false,false,false,false,false,false,false,false,false,false,false,false,false,false,false,false,false,false,false,false,false,false,false,false,false] kr rfl rfl ⟨(blk_cell BK227.out 0).trans rfl, (blk_cell BK227.out 1).trans rfl, (blk_cell BK227.out 2).trans rfl, (blk_cell BK227.out 3).trans rfl, (blk_cell BK228.out 0).trans rfl, (blk_cell BK228.out 1).trans rfl, (blk_cell BK228.out 2).trans rfl, (blk_cell BK228.out 3).trans rfl⟩ (fun hHeld => ?_); refine with_tabW impl_CompareValues.tab1 impl_CompareValues.bits1 (fun HT_ HW_ => ?_)
 generalize w9.drew = w10 at BK227 BK228 HB hHeld ⊢
 refine pure_ (i := 0) (N := some 7) (v := ?_) (a' := ?_) (bm 25 1) rfl rfl (any_of HT_.out kr) qi (Or.inl ⟨by rfl, ?_⟩) ?_ ?_
 rotate_left
 ·intro w'
  go_simp
  with_reducible rfl
 rotate_left
 ·simp only [sx]
  rfl
 refine pure_ (i := 2) (N := some 9) (v := ?_) (a' := ?_) (bm 25 5) rfl rfl (any_of HT_.out kr) qi (Or.inl ⟨by rfl, ?_⟩) ?_ ?_
 rotate_left
 ·intro w'
  go_simp
  with_reducible rfl
 rotate_left
 ·simp only [sx]
  rfl
 refine pure_ (i := 5) (N := some 12) (v := ?_) (a' := ?_) (bm 25 37) rfl rfl (any_of HT_.out kr) qi (Or.inl ⟨by rfl, ?_⟩) ?_ ?_
 rotate_left
 ·intro w'
  go_simp
  with_reducible rfl
 rotate_left
 ·simp only [sx]
  rfl
 refine pure_ (i := 7) (N := some 14) (v := ?_) (a' := ?_) (bm 25 165) rfl rfl (any_of HT_.out kr) qi (Or.inl ⟨by rfl, ?_⟩) ?_ ?_
 rotate_left
 ·intro w'
  go_simp
  with_reducible rfl
 rotate_left
 ·simp only [sx]
  rfl
 refine pure_ (i := 10) (N := some 17) (v := ?_) (a' := ?_) (bm 25 1189) rfl rfl (any_of HT_.out kr) qi (Or.inl ⟨by rfl, ?_⟩) ?_ ?_
 rotate_left
 ·intro w'
  go_simp
  with_reducible rfl
 rotate_left
 ·simp only [sx]
  rfl
 refine pure_ (i := 13) (N := some 20) (v := ?_) (a' := ?_) (bm 25 9381) rfl rfl (any_of HT_.out kr) qi (Or.inl ⟨by rfl, ?_⟩) ?_ ?_
 rotate_left
 ·intro w'
  go_simp
  with_reducible rfl
 rotate_left
 ·simp only [sx]
  rfl
 refine pure_ (i := 17) (N := some 24) (v := ?_) (a' := ?_) (bm 25 140453) rfl rfl (any_of HT_.out kr) qi (Or.inl ⟨by rfl, ?_⟩) ?_ ?_
 rotate_left
 ·intro w'
  go_simp
  with_reducible rfl
 rotate_left
 ·simp only [sx]
  rfl
 refine pure_ (i := 19) (N := some 26) (v := ?_) (a' := ?_) (bm 25 664741) rfl rfl (any_of HT_.out kr) qi (Or.inl ⟨by rfl, ?_⟩) ?_ ?_
 rotate_left
 ·intro w'
  go_simp
  with_reducible rfl
 rotate_left
 ·simp only [sx]
  rfl
 refine take_ (i := 1) (N := some 8) (v := ?_) (a' := ?_) (bm 25 664743) rfl rfl (take_ofW HT_.out HW_.out kr) qi (Or.inl ⟨by rfl, ?_⟩) hHeld ?_ ?_
 rotate_left
 ·rintro w' ⟨s0, s1, s2, s3, s4, s5, s6, s7⟩
  go_simp
  with_reducible rfl
 rotate_left
 ·simp only [sx]
  rfl
 refine take_ (i := 3) (N := some 10) (v := ?_) (a' := ?_) (bm 25 664751) rfl rfl (take_ofW HT_.out HW_.out kr) qi (Or.inl ⟨by rfl, ?_⟩) hHeld ?_ ?_
 rotate_left
 ·rintro w' ⟨s0, s1, s2, s3, s4, s5, s6, s7⟩
  go_simp
  with_reducible rfl
 rotate_left
 ·simp only [sx]
  rfl
 refine take_ (i := 6) (N := some 13) (v := ?_) (a' := ?_) (bm 25 664815) rfl rfl (take_ofW HT_.out HW_.out kr) qi (Or.inl ⟨by rfl, ?_⟩) hHeld ?_ ?_
 rotate_left
 ·rintro w' ⟨s0, s1, s2, s3, s4, s5, s6, s7⟩
  go_simp
  with_reducible rfl
 rotate_left
 ·simp only [sx]
  rfl
 refine take_ (i := 8) (N := some 15) (v := ?_) (a' := ?_) (bm 25 665071) rfl rfl (take_ofW HT_.out HW_.out kr) qi (Or.inl ⟨by rfl, ?_⟩) hHeld ?_ ?_
 rotate_left
 ·rintro w' ⟨s0, s1, s2, s3, s4, s5, s6, s7⟩
  go_simp
  with_reducible rfl
 rotate_left
 ·simp only [sx]
  rfl
 refine take_ (i := 11) (N := some 18) (v := ?_) (a' := ?_) (bm 25 667119) rfl rfl (take_ofW HT_.out HW_.out kr) qi (Or.inl ⟨by rfl, ?_⟩) hHeld ?_ ?_
 rotate_left
 ·rintro w' ⟨s0, s1, s2, s3, s4, s5, s6, s7⟩
  go_simp
  with_reducible rfl
 rotate_left
 ·simp only [sx]
  rfl
 refine pure_ (i := 12) (N := some 19) (v := ?_) (a' := ?_) (bm 25 671215) rfl rfl (any_of HT_.out kr) qi (Or.inl ⟨by rfl, ?_⟩) ?_ ?_
 rotate_left
 ·intro w'
  go_simp
  with_reducible rfl
 rotate_left
 ·simp only [sx]
  rfl
 refine take_ (i := 14) (N := some 21) (v := ?_) (a' := ?_) (bm 25 687599) rfl rfl (take_ofW HT_.out HW_.out kr) qi (Or.inl ⟨by rfl, ?_⟩) hHeld ?_ ?_
 rotate_left
 ·rintro w' ⟨s0, s1, s2, s3, s4, s5, s6, s7⟩
  go_simp
  with_reducible rfl
 rotate_left
 ·simp only [sx]
  rfl
 refine pure_ (i := 15) (N := some 22) (v := ?_) (a' := ?_) (bm 25 720367) rfl rfl (any_of HT_.out kr) qi (Or.inl ⟨by rfl, ?_⟩) ?_ ?_
 rotate_left
 ·intro w'
  go_simp
  with_reducible rfl
 rotate_left
 ·simp only [sx]
  rfl
 refine take_ (i := 18) (N := some 25) (v := ?_) (a' := ?_) (bm 25 982511) rfl rfl (take_ofW HT_.out HW_.out kr) qi (Or.inl ⟨by rfl, ?_⟩) hHeld ?_ ?_
 rotate_left
 ·rintro w' ⟨s0, s1, s2, s3, s4, s5, s6, s7⟩
  go_simp
  with_reducible rfl
 rotate_left
 ·simp only [sx]
  rfl
 refine take_ (i := 20) (N := some 27) (v := ?_) (a' := ?_) (bm 25 2031087) rfl rfl (take_ofW HT_.out HW_.out kr) qi (Or.inl ⟨by rfl, ?_⟩) hHeld ?_ ?_
 rotate_left
 ·rintro w' ⟨s0, s1, s2, s3, s4, s5, s6, s7⟩
  go_simp
  with_reducible rfl
 rotate_left
 ·simp only [sx]
  rfl
 refine one_ (i := 4) (N := some 11) (bm 25 2031103) rfl rfl (one_of HT_.out kr) (by decide) (fun K hK => ?_)
 refine goes_ Try.func36 kr rfl #[.int .i64 a0_0, .int .i64 a1_0] (by rfl) rfl rfl mpw ?_
 with_reducible refine (cmp_Compare_int.calls a0_0 a1_0 t229 _ A3.out).mono ?_
 rintro e w' ⟨rfl, ⟨nd, rfl⟩⟩
 refine ⟨_, rfl, ?_⟩
 refine hK.out _ _ ⟨(blk_cell BK227.out 0).trans rfl, (blk_cell BK227.out 1).trans rfl, (blk_cell BK227.out 2).trans rfl, (blk_cell BK227.out 3).trans rfl, (blk_cell BK228.out 0).trans rfl, (blk_cell BK228.out 1).trans rfl, (blk_cell BK228.out 2).trans rfl, (blk_cell BK228.out 3).trans rfl⟩ (fun hHeld => ?_)
 clear hK K
 refine norm_ (a' := ?_) ?_ ?_
 rotate_left
 ·show Act.put _ (some 11) _ = _
  simp only [sx]
  rfl
 refine one_ (i := 9) (N := some 16) (bm 25 2031615) rfl rfl (one_of HT_.out kr) (by decide) (fun K hK => ?_)
 refine goes_ Try.func36 kr rfl #[.int .i64 a0_1, .int .i64 a1_1] (by rfl) rfl rfl mpw ?_
 with_reducible refine (cmp_Compare_int.calls a0_1 a1_1 t230 _ A4.out).mono ?_
 rintro e w' ⟨rfl, ⟨nd, rfl⟩⟩
 refine ⟨_, rfl, ?_⟩
 refine hK.out _ _ ⟨(blk_cell BK227.out 0).trans rfl, (blk_cell BK227.out 1).trans rfl, (blk_cell BK227.out 2).trans rfl, (blk_cell BK227.out 3).trans rfl, (blk_cell BK228.out 0).trans rfl, (blk_cell BK228.out 1).trans rfl, (blk_cell BK228.out 2).trans rfl, (blk_cell BK228.out 3).trans rfl⟩ (fun hHeld => ?_)
 clear hK K
 refine norm_ (a' := ?_) ?_ ?_
 rotate_left
 ·show Act.put _ (some 16) _ = _
  simp only [sx]
  rfl
 refine one_ (i := 16) (N := some 23) (bm 25 2097151) rfl rfl (one_of HT_.out kr) (by decide) (fun K hK => ?_)
 refine goes_ Try.func36 kr rfl #[.int .i64 (l0_3.length : Int), .int .i64 (l1_3.length : Int)] (by rfl) rfl rfl mpw ?_
 with_reducible refine (cmp_Compare_int.calls (l0_3.length : Int) (l1_3.length : Int) t231 _ A5.out).mono ?_
 rintro e w' ⟨rfl, ⟨nd, rfl⟩⟩
 refine ⟨_, rfl, ?_⟩
 refine hK.out _ _ ⟨(blk_cell BK227.out 0).trans rfl, (blk_cell BK227.out 1).trans rfl, (blk_cell BK227.out 2).trans rfl, (blk_cell BK227.out 3).trans rfl, (blk_cell BK228.out 0).trans rfl, (blk_cell BK228.out 1).trans rfl, (blk_cell BK228.out 2).trans rfl, (blk_cell BK228.out 3).trans rfl⟩ (fun hHeld => ?_)
 clear hK K
 refine norm_ (a' := ?_) ?_ ?_
 rotate_left
 ·show Act.put _ (some 23) _ = _
  simp only [sx]
  rfl
 refine one_ (i := 21) (N := some 28) (bm 25 4194303) rfl rfl (one_of HT_.out kr) (by decide) (fun K hK => ?_)
 refine goes_ Try.func37 kr rfl #[.slice A0_2 l0_2.length c0_2, .slice A1_2 l1_2.length c1_2] (by rfl) rfl rfl mpw ?_
 with_reducible refine (slices_Compare_string_string.calls k _ _ l0_2 _ _ l1_2 t232 _ ?side1 ?side2 ?side3 ?side4 A6.out).mono ?_
 (case side1 => repeat (first | exact (Kd.C_below HR0_2.out blw) | (with_reducible refine Kd.C_alloc ?_ _) | (with_reducible refine Kd.C_drewN ?_ _) | (with_reducible refine Kd.C_drew ?_)))
 (case side2 => exact HC0_2.out)
 (case side3 => repeat (first | exact (Kd.C_below HR1_2.out blw) | (with_reducible refine Kd.C_alloc ?_ _) | (with_reducible refine Kd.C_drewN ?_ _) | (with_reducible refine Kd.C_drew ?_)))
 (case side4 => exact HC1_2.out)
 rintro e w' ⟨rfl, ⟨nd, rfl⟩⟩
 refine ⟨_, rfl, ?_⟩
 refine hK.out _ _ ⟨(blk_cell BK227.out 0).trans rfl, (blk_cell BK227.out 1).trans rfl, (blk_cell BK227.out 2).trans rfl, (blk_cell BK227.out 3).trans rfl, (blk_cell BK228.out 0).trans rfl, (blk_cell BK228.out 1).trans rfl, (blk_cell BK228.out 2).trans rfl, (blk_cell BK228.out 3).trans rfl⟩ (fun hHeld => ?_)
 clear hK K
 refine norm_ (a' := ?_) ?_ ?_
 rotate_left
 ·show Act.put _ (some 28) _ = _
  simp only [sx]
  rfl
 refine one_ (i := 22) (N := some 29) (bm 25 8388607) rfl rfl (one_of HT_.out kr) (by decide) (fun K hK => ?_)
 refine Kd.R_lit_step (Kd.int .i64) _ 3 ?hg (N := 29) ?hd (xs := ([t229, t230, t231, t232] : List Int)) (inner := [.int .i64 t229, .int .i64 t230, .int .i64 t231, .int .i64 t232]) (ok := fun _ => True) (okp := fun _ => True) ?hr ?hp (fun _ hk => hk) trivial (Below.refl _ _) (Nat.le_refl _) (by simp) ?_; (case hd => rfl); (case hg => rfl); (case hr => exact hrw); (case hp => exact (Reps.one (show Kd.M (Kd.int .i64) _ _ _ t229 [.int .i64 t229] from rfl) (Reps.one (show Kd.M (Kd.int .i64) _ _ _ t230 [.int .i64 t230] from rfl) (Reps.one (show Kd.M (Kd.int .i64) _ _ _ t231 [.int .i64 t231] from rfl) (Reps.one (show Kd.M (Kd.int .i64) _ _ _ t232 [.int .i64 t232] from rfl) (Reps.none _ _))))))
 intro v234 w11 ho12 hb hg_ hnew_
 clear hg_ hnew_
 (first | rw [← Ny233.out] at ho12 | (simp only [Int.reduceToNat] at ho12; rw [← Ny233.out] at ho12))
 have n0_ := am (Kd.R_lower ho12 (below_size blw))
 have n1_ := am (blk_below (g := gb227) bkw hb)
 have n2_ := am (blk_below (g := gb228) bkw hb)
 have n3_ := am (below_step blw hb)
 clear BK227
 clear BK228
 clear HB
 revert n0_ n1_ n2_ n3_
 intro HO235 BK227 BK228 HB
 clear hb ho12
 obtain ⟨Ao13, co13, eo13⟩ := Kd.R_slice HO235.out
 (first | subst eo13 | (injection eo13 with f1_ f2_ f3_; have f4_ := f1_.symm; have f5_ := f3_.symm; clear f1_ f2_ f3_; subst f4_; subst f5_))
 refine hK.out _ _ ⟨(blk_cell BK227.out 0).trans rfl, (blk_cell BK227.out 1).trans rfl, (blk_cell BK227.out 2).trans rfl, (blk_cell BK227.out 3).trans rfl, (blk_cell BK228.out 0).trans rfl, (blk_cell BK228.out 1).trans rfl, (blk_cell BK228.out 2).trans rfl, (blk_cell BK228.out 3).trans rfl⟩ (fun hHeld => ?_)
 clear hK K
 refine norm_ (a' := ?_) ?_ ?_
 rotate_left
 ·show Act.put _ (some 29) _ = _
  simp only [sx]
  rfl
 refine one_ (i := 23) (N := some 30) (bm 25 16777215) rfl rfl (one_of HT_.out kr) (by decide) (fun K hK => ?_)
 refine goes_ Try.func35 kr rfl #[.slice Ao13 y233.length co13] (by rfl) rfl rfl mpw ?_
 with_reducible refine (cmp_Or_int.calls k _ _ y233 t236 _ ?side1 ?side2 A7.out).mono ?_
 (case side1 => repeat (first | exact (Kd.R_reads' HO235.out).2.2 | (with_reducible refine Kd.C_alloc ?_ _) | (with_reducible refine Kd.C_drewN ?_ _) | (with_reducible refine Kd.C_drew ?_)))
 (case side2 => exact (Kd.R_reads' HO235.out).2.1)
 rintro e w' ⟨rfl, ⟨nd, rfl⟩⟩
 refine ⟨_, rfl, ?_⟩
 refine hK.out _ _ ⟨(blk_cell BK227.out 0).trans rfl, (blk_cell BK227.out 1).trans rfl, (blk_cell BK227.out 2).trans rfl, (blk_cell BK227.out 3).trans rfl, (blk_cell BK228.out 0).trans rfl, (blk_cell BK228.out 1).trans rfl, (blk_cell BK228.out 2).trans rfl, (blk_cell BK228.out 3).trans rfl⟩ (fun hHeld => ?_)
 clear hK K
 refine norm_ (a' := ?_) ?_ ?_
 rotate_left
 ·show Act.put _ (some 30) _ = _
  simp only [sx]
  rfl
 refine pure_ (i := 24) (N := some 5) (v := ?_) (a' := ?_) (bm 25 33554431) rfl rfl (any_of HT_.out kr) qi (Or.inl ⟨by rfl, ?_⟩) ?_ ?_
 rotate_left
 ·intro w'
  go_simp
  with_reducible rfl
 rotate_left
 ·simp only [sx]
  rfl
 refine done_ (done_of HT_.out kr) ?_
 try go_wp2
 go_loopg [5, 6] k (fun kq v5 v6 w' => ∃ (x5_1 : Int) (x6_1 : Int), v5 = .int .i64 x5_1 ∧ v6 = .int .i64 x6_1 ∧ Aside0 (impl_CompareValues.l0 kq x5_1 x6_1 a0_0 a0_1 l0_2 l0_3 a1_0 a1_1 l1_2 l1_3 = some r) ∧ Aside0 (kq ≤ k) ∧ Aside0 (w'.heap[gb227]? = some (.cells #[.int .i64 a0_0, .int .i64 a0_1, (.slice A0_2 l0_2.length c0_2), (.slice A0_3 l0_3.length c0_3)] 30 (0, 0))) ∧ Aside0 (w'.heap[gb228]? = some (.cells #[.int .i64 a1_0, .int .i64 a1_1, (.slice A1_2 l1_2.length c1_2), (.slice A1_3 l1_3.length c1_3)] 30 (0, 0))) ∧ Aside0 (Below w.heap.size w w'))
 case atStart => exact ⟨(t236), (0), rfs, rfs, H', ⟨Nat.le_refl _⟩, ⟨bkw⟩, ⟨bkw⟩, ⟨blw⟩⟩
 case round =>
  clear H'
  (try clear c1); (try clear c2); (try clear p2); (try clear c3)
  obtain ⟨x5_1, x6_1, rfl, rfl, HA, HK1, BK227, BK228, HB⟩ := hrel
  cases gk with
  | zero => exact absurd HA.out (by simp [impl_CompareValues.l0])
  | succ k1 =>
   have H := HA.out
   clear HA
   simp only [impl_CompareValues.l0] at H
   by_cases c14 : x5_1 = 0
   case neg =>
    rw [if_neg c14] at H
    have c14b0 : (x5_1 == 0) = false := beq_eq_false_iff_ne.mpr c14
    have c14b1 : (x5_1 != 0) = true := bne_iff_ne.mpr c14
    obtain rfl := Option.some.inj H
    go_wp2
    go_ret
    exact ⟨rfw, blw⟩
   rw [if_pos c14] at H
   have c14b0 : (x5_1 == 0) = true := beq_iff_eq.mpr c14
   have c14b1 : (x5_1 != 0) = false := bne_eq_false_iff_eq.mpr c14
   clear c14
   by_cases c15 : x6_1 < (l0_3.length : Int)
   case neg =>
    rw [if_neg c15] at H
    have c15b0 : decide (x6_1 < (l0_3.length : Int)) = false := decide_eq_false c15
    clear c15
    obtain rfl := Option.some.inj H
    have hnb23 := NB227_228.out
    have hnc23 := NB228_227.out
    obtain ⟨hcz24_0, hcz24_1, hcz24_2, hcz24_3⟩ := cls4 BK227.out
    obtain ⟨hfz24_0, hfz24_1, hfz24_2, hfz24_3⟩ := frz4 BK227.out
    go_wp2
    go_ret
    exact ⟨rfw, blw⟩
   rw [if_pos c15] at H
   have c15b0 : decide (x6_1 < (l0_3.length : Int)) = true := decide_eq_true c15
   clear c15
   by_cases c16 : 0 ≤ x6_1
   case neg =>
    rw [if_neg c16] at H
    exact absurd H (by simp)
   rw [if_pos c16] at H
   have c16b0 : decide (0 ≤ x6_1) = true := decide_eq_true c16
   clear c16
   by_cases c17 : x6_1 < (l1_3.length : Int)
   case neg =>
    rw [if_neg c17] at H
    exact absurd H (by simp)
   rw [if_pos c17] at H
   have c17b0 : decide (x6_1 < (l1_3.length : Int)) = true := decide_eq_true c17
   clear c17
   replace H := Option.bind_eq_some_iff.mp H
   obtain ⟨t239, A180, H⟩ := H
   replace H : (impl_CompareValues.l0 k1 t239 (wrap64 (x6_1 + 1)) a0_0 a0_1 l0_2 l0_3 a1_0 a1_1 l1_2 l1_3) = some r := H
   have A18 := am A180
   clear A180
   have H' := am H
   clear H
   have hnb19 := NB227_228.out
   have hnc19 := NB228_227.out
   obtain ⟨hcz20_0, hcz20_1, hcz20_2, hcz20_3⟩ := cls4 BK227.out
   obtain ⟨hfz20_0, hfz20_1, hfz20_2, hfz20_3⟩ := frz4 BK227.out
   try go_wp2
   have n0_ := am (blk_drew BK227.out)
   have n1_ := am (blk_drew BK228.out)
   have n2_ := am (below_drew1 HB.out)
   clear BK227
   clear BK228
   clear HB
   revert n0_ n1_ n2_
   intro BK227 BK228 HB
   have p237 : 0 ≤ (x6_1 : Int) := of_decide_eq_true asw
   have q237 : x6_1 < (l0_3.length : Int) := of_decide_eq_true asw
   obtain ⟨ad237, A237_2, c237_2, A237_3, c237_3, e237, hx237_0, hx237_1, hx237_2, hx237_3, hl237_2, hi237_2, hl237_3, hi237_3⟩ := at_T30 HR0_3.out x6_1 p237 q237
   have hw237_3 := hx237_3
   have hw237_2 := hx237_2
   have hw237_1 := hx237_1
   have hw237_0 := hx237_0
   cases e237
   replace hx237_0 := upw HB.out hx237_0
   replace hx237_1 := upw HB.out hx237_1
   replace hx237_2 := upw HB.out hx237_2
   replace hx237_3 := upw HB.out hx237_3
   have HR237_2 := am hi237_2
   have HC237_2 := am hl237_2
   clear hi237_2 hl237_2
   have HR237_3 := am hi237_3
   have HC237_3 := am hl237_3
   clear hi237_3 hl237_3
   replace p237 := eq_true p237
   replace q237 := eq_true q237
   have p238 : 0 ≤ (x6_1 : Int) := of_decide_eq_true asw
   have q238 : x6_1 < (l1_3.length : Int) := of_decide_eq_true asw
   obtain ⟨ad238, A238_2, c238_2, A238_3, c238_3, e238, hx238_0, hx238_1, hx238_2, hx238_3, hl238_2, hi238_2, hl238_3, hi238_3⟩ := at_T30 HR1_3.out x6_1 p238 q238
   have hw238_3 := hx238_3
   have hw238_2 := hx238_2
   have hw238_1 := hx238_1
   have hw238_0 := hx238_0
   cases e238
   replace hx238_0 := upw HB.out hx238_0
   replace hx238_1 := upw HB.out hx238_1
   replace hx238_2 := upw HB.out hx238_2
   replace hx238_3 := upw HB.out hx238_3
   have HR238_2 := am hi238_2
   have HC238_2 := am hl238_2
   clear hi238_2 hl238_2
   have HR238_3 := am hi238_3
   have HC238_3 := am hl238_3
   clear hi238_3 hl238_3
   replace p238 := eq_true p238
   replace q238 := eq_true q238
   refine start_ (n := 12) (S := fun w' => w'.cell? ⟨gb227, 0, none⟩ = some (.int .i64 a0_0) ∧ w'.cell? ⟨gb227, 1, none⟩ = some (.int .i64 a0_1) ∧ w'.cell? ⟨gb227, 2, none⟩ = some (.slice A0_2 l0_2.length c0_2) ∧ w'.cell? ⟨gb227, 3, none⟩ = some (.slice (some ad237) l0_3.length c0_3) ∧ w'.cell? ⟨gb228, 0, none⟩ = some (.int .i64 a1_0) ∧ w'.cell? ⟨gb228, 1, none⟩ = some (.int .i64 a1_1) ∧ w'.cell? ⟨gb228, 2, none⟩ = some (.slice A1_2 l1_2.length c1_2) ∧ w'.cell? ⟨gb228, 3, none⟩ = some (.slice (some ad238) l1_3.length c1_3) ∧ w'.cell? (ad237.add ((x6_1).toNat * 4)) = some (.int .i64 ((rd_T30 l0_3 x6_1).f0)) ∧ w'.cell? ⟨(ad237.add ((x6_1).toNat * 4)).block, (ad237.add ((x6_1).toNat * 4)).off + 1, none⟩ = some (.int .i64 ((rd_T30 l0_3 x6_1).f1)) ∧ w'.cell? ⟨(ad237.add ((x6_1).toNat * 4)).block, (ad237.add ((x6_1).toNat * 4)).off + 2, none⟩ = some (.slice A237_2 ((rd_T30 l0_3 x6_1).f2).length c237_2) ∧ w'.cell? ⟨(ad237.add ((x6_1).toNat * 4)).block, (ad237.add ((x6_1).toNat * 4)).off + 3, none⟩ = some (.slice A237_3 ((rd_T30 l0_3 x6_1).f3).length c237_3) ∧ w'.cell? (ad238.add ((x6_1).toNat * 4)) = some (.int .i64 ((rd_T30 l1_3 x6_1).f0)) ∧ w'.cell? ⟨(ad238.add ((x6_1).toNat * 4)).block, (ad238.add ((x6_1).toNat * 4)).off + 1, none⟩ = some (.int .i64 ((rd_T30 l1_3 x6_1).f1)) ∧ w'.cell? ⟨(ad238.add ((x6_1).toNat * 4)).block, (ad238.add ((x6_1).toNat * 4)).off + 2, none⟩ = some (.slice A238_2 ((rd_T30 l1_3 x6_1).f2).length c238_2) ∧ w'.cell? ⟨(ad238.add ((x6_1).toNat * 4)).block, (ad238.add ((x6_1).toNat * 4)).off + 3, none⟩ = some (.slice A238_3 ((rd_T30 l1_3 x6_1).f3).length c238_3)) (ds := []) #[false,false,false,false,false,false,false,false,false,false,false,false] kr rfl rfl ⟨(blk_cell BK227.out 0).trans rfl, (blk_cell BK227.out 1).trans rfl, (blk_cell BK227.out 2).trans rfl, (blk_cell BK227.out 3).trans rfl, (blk_cell BK228.out 0).trans rfl, (blk_cell BK228.out 1).trans rfl, (blk_cell BK228.out 2).trans rfl, (blk_cell BK228.out 3).trans rfl, ((upw HB.out hw237_0 : _)), ((upw HB.out hw237_1 : _)), ((upw HB.out hw237_2 : _)), ((upw HB.out hw237_3 : _)), ((upw HB.out hw238_0 : _)), ((upw HB.out hw238_1 : _)), ((upw HB.out hw238_2 : _)), ((upw HB.out hw238_3 : _))⟩ (fun hHeld => ?_); refine with_tabW impl_CompareValues.tab5 impl_CompareValues.bits5 (fun HT_ HW_ => ?_)
   generalize wr.drew = w21 at BK227 BK228 HB HR237_2 HR237_3 HR238_2 HR238_3 hx237_0 hx237_1 hx237_2 hx237_3 hx238_0 hx238_1 hx238_2 hx238_3 hHeld ⊢
   refine pure_ (i := 0) (N := some 42) (v := ?_) (a' := ?_) (bm 12 1) rfl rfl (any_of HT_.out kr) qi (Or.inl ⟨by rfl, ?_⟩) ?_ ?_
   rotate_left
   ·intro w'
    go_simp
    with_reducible rfl
   rotate_left
   ·simp only [sx]
    rfl
   refine pure_ (i := 2) (N := some 44) (v := ?_) (a' := ?_) (bm 12 5) rfl rfl (any_of HT_.out kr) qi (Or.inl ⟨by rfl, ?_⟩) ?_ ?_
   rotate_left
   ·intro w'
    go_simp
    with_reducible rfl
   rotate_left
   ·simp only [sx]
    rfl
   refine pure_ (i := 5) (N := some 47) (v := ?_) (a' := ?_) (bm 12 37) rfl rfl (any_of HT_.out kr) qi (Or.inl ⟨by rfl, ?_⟩) ?_ ?_
   rotate_left
   ·intro w'
    go_simp
    with_reducible rfl
   rotate_left
   ·simp only [sx]
    rfl
   refine pure_ (i := 7) (N := some 49) (v := ?_) (a' := ?_) (bm 12 165) rfl rfl (any_of HT_.out kr) qi (Or.inl ⟨by rfl, ?_⟩) ?_ ?_
   rotate_left
   ·intro w'
    go_simp
    with_reducible rfl
   rotate_left
   ·simp only [sx]
    rfl
   refine take_ (i := 1) (N := some 43) (v := ?_) (a' := ?_) (bm 12 167) rfl rfl (take_ofW HT_.out HW_.out kr) qi (Or.inl ⟨by rfl, ?_⟩) hHeld ?_ ?_
   rotate_left
   ·rintro w' ⟨s0, s1, s2, s3, s4, s5, s6, s7, s8, s9, s10, s11, s12, s13, s14, s15⟩
    go_simp
    with_reducible rfl
   rotate_left
   ·simp only [sx]
    rfl
   refine pure_ (i := 3) (N := some 45) (v := ?_) (a' := ?_) (bm 12 175) rfl rfl (any_of HT_.out kr) qi (Or.inl ⟨by rfl, ?_⟩) ?_ ?_
   rotate_left
   ·intro w'
    go_simp
    with_reducible rfl
   rotate_left
   ·simp only [sx]
    rfl
   refine take_ (i := 4) (N := some 46) (v := ?_) (a' := ?_) (bm 12 191) rfl rfl (take_ofW HT_.out HW_.out kr) qi (Or.inl ⟨by rfl, ?_⟩) hHeld ?_ ?_
   rotate_left
   ·rintro w' ⟨s0, s1, s2, s3, s4, s5, s6, s7, s8, s9, s10, s11, s12, s13, s14, s15⟩
    go_simp
    with_reducible rfl
   rotate_left
   ·simp only [sx]
    rfl
   refine take_ (i := 6) (N := some 48) (v := ?_) (a' := ?_) (bm 12 255) rfl rfl (take_ofW HT_.out HW_.out kr) qi (Or.inl ⟨by rfl, ?_⟩) hHeld ?_ ?_
   rotate_left
   ·rintro w' ⟨s0, s1, s2, s3, s4, s5, s6, s7, s8, s9, s10, s11, s12, s13, s14, s15⟩
    go_simp
    with_reducible rfl
   rotate_left
   ·simp only [sx]
    rfl
   refine pure_ (i := 8) (N := some 50) (v := ?_) (a' := ?_) (bm 12 511) rfl rfl (any_of HT_.out kr) qi (Or.inl ⟨by rfl, ?_⟩) ?_ ?_
   rotate_left
   ·intro w'
    go_simp
    with_reducible rfl
   rotate_left
   ·simp only [sx]
    rfl
   refine take_ (i := 9) (N := some 51) (v := ?_) (a' := ?_) (bm 12 1023) rfl rfl (take_ofW HT_.out HW_.out kr) qi (Or.inl ⟨by rfl, ?_⟩) hHeld ?_ ?_
   rotate_left
   ·rintro w' ⟨s0, s1, s2, s3, s4, s5, s6, s7, s8, s9, s10, s11, s12, s13, s14, s15⟩
    go_simp
    with_reducible rfl
   rotate_left
   ·simp only [sx]
    rfl
   refine one_ (i := 10) (N := some 52) (bm 12 2047) rfl rfl (one_of HT_.out kr) (by decide) (fun K hK => ?_)
   refine goes_ Try.func22 kr rfl #[.agg #[.int .i64 ((rd_T30 l0_3 x6_1).f0), .int .i64 ((rd_T30 l0_3 x6_1).f1), .slice A237_2 ((rd_T30 l0_3 x6_1).f2).length c237_2, .slice A237_3 ((rd_T30 l0_3 x6_1).f3).length c237_3], .agg #[.int .i64 ((rd_T30 l1_3 x6_1).f0), .int .i64 ((rd_T30 l1_3 x6_1).f1), .slice A238_2 ((rd_T30 l1_3 x6_1).f2).length c238_2, .slice A238_3 ((rd_T30 l1_3 x6_1).f3).length c238_3]] (by rfl) rfl rfl mpw ?_
   with_reducible refine (ih k1 (by have := HK1.out; omega) ((rd_T30 l0_3 x6_1).f0) ((rd_T30 l0_3 x6_1).f1) _ _ ((rd_T30 l0_3 x6_1).f2) _ _ ((rd_T30 l0_3 x6_1).f3) ((rd_T30 l1_3 x6_1).f0) ((rd_T30 l1_3 x6_1).f1) _ _ ((rd_T30 l1_3 x6_1).f2) _ _ ((rd_T30 l1_3 x6_1).f3) t239 _ ?side1 ?side2 ?side3 ?side4 ?side5 ?side6 ?side7 ?side8 A18.out).mono ?_
   (case side1 => have X_ := HR237_2; exact cbl)
   (case side2 => exact HC237_2.out)
   (case side3 => have X_ := HR237_3; exact cbl)
   (case side4 => exact HC237_3.out)
   (case side5 => have X_ := HR238_2; exact cbl)
   (case side6 => exact HC238_2.out)
   (case side7 => have X_ := HR238_3; exact cbl)
   (case side8 => exact HC238_3.out)
   rintro e w22 ⟨rfl, hb⟩
   refine ⟨_, rfl, ?_⟩
   have n0_ := am (blk_below (g := gb227) bkw hb)
   have n1_ := am (blk_below (g := gb228) bkw hb)
   have n2_ := am (below_step blw hb)
   clear BK227
   clear BK228
   clear HB
   revert n0_ n1_ n2_
   intro BK227 BK228 HB
   (try clear hb)
   (try clear hb2)
   (try clear hk)
   (try clear hi)
   refine hK.out _ _ ⟨(blk_cell BK227.out 0).trans rfl, (blk_cell BK227.out 1).trans rfl, (blk_cell BK227.out 2).trans rfl, (blk_cell BK227.out 3).trans rfl, (blk_cell BK228.out 0).trans rfl, (blk_cell BK228.out 1).trans rfl, (blk_cell BK228.out 2).trans rfl, (blk_cell BK228.out 3).trans rfl, ((upw HB.out hw237_0 : _)), ((upw HB.out hw237_1 : _)), ((upw HB.out hw237_2 : _)), ((upw HB.out hw237_3 : _)), ((upw HB.out hw238_0 : _)), ((upw HB.out hw238_1 : _)), ((upw HB.out hw238_2 : _)), ((upw HB.out hw238_3 : _))⟩ (fun hHeld => ?_)
   clear hK K
   refine norm_ (a' := ?_) ?_ ?_
   rotate_left
   ·show Act.put _ (some 52) _ = _
    simp only [sx]
    rfl
   refine pure_ (i := 11) (N := some 5) (v := ?_) (a' := ?_) (bm 12 4095) rfl rfl (any_of HT_.out kr) qi (Or.inl ⟨by rfl, ?_⟩) ?_ ?_
   rotate_left
   ·intro w'
    go_simp
    with_reducible rfl
   rotate_left
   ·simp only [sx]
    rfl
   refine done_ (done_of HT_.out kr) ?_
   try go_wp2
   go_roundg k1
   case measure => have := HK1.out; omega
   case rel => exact ⟨(t239), (wrap64 (x6_1 + 1)), rfs, rfs, H', ⟨by have := HK1.out; omega⟩, ⟨bkw⟩, ⟨bkw⟩, ⟨blw⟩⟩

/-! ### slices_Clone_string_string: function 27 -/
/-- slices.Clone at texts: the same texts, in a row of their own. -/
def slices_Clone_string_string.f (l0 : List ByteArray) : Option (List ByteArray) := if l0.length < 8796093022208 then some l0 else none
set_option maxHeartbeats 1000000 in
set_option maxRecDepth 100000 in
theorem slices_Clone_string_string.calls (A0 : Option Addr) (c0 : Nat) (l0 : List ByteArray) (r : List ByteArray) (w : World) (hr0 : Kd.C Kd.string w A0 l0.length l0) (hc0 : l0.length ≤ c0) (h : slices_Clone_string_string.f l0 = some r) :
  Calls Try.prog 27 #[.slice A0 l0.length c0] w fun e w' => ∃ v0_ : Value, e = .returned (v0_) ∧ Kd.R Kd.string 9 w' w.heap.size (fun _ => True) v0_ r ∧ Below w.heap.size w w' := by
 unfold slices_Clone_string_string.f at h
 by_cases hl : l0.length < 8796093022208
 case neg =>
  rw [if_neg hl] at h
  cases h
 rw [if_pos hl] at h
 obtain rfl := Option.some.inj h
 have HL := am hl
 have HR0 := am hr0
 have HC0 := am hc0
 clear h hl hr0 hc0
 cases A0 with
 | none =>
  have hz : l0 = [] := by
   rcases Nat.eq_zero_or_pos l0.length with h0 | h0
   ·exact List.eq_nil_of_length_eq_zero h0
   ·obtain ⟨ad, h, _⟩ := HR0.out.2.2 h0
    cases h
  subst hz
  have he : ∀ n c w', (binOp .eql 22 (.slice none n c) (.slice none 0 0)).run Try.prog w' = .ok (.bool true) w' := fun n c w' => Go.Proofs.Ytonimhfahjediaa.Ext.eql_slice_nil Try.underlying22 none n c w'
  go_enter Try.func27, Try.ntmps27
  go_wp2
  go_ret
  exact ⟨_, rfl, Kd.R_nil _ _ _ _ _, Below.refl _ _⟩
 | some ad =>
  have he : ∀ n c w', (binOp .eql 22 (.slice (some ad) n c) (.slice none 0 0)).run Try.prog w' = .ok (.bool false) w' := fun n c w' => Go.Proofs.Ytonimhfahjediaa.Ext.eql_slice_nil Try.underlying22 (some ad) n c w'
  go_enter Try.func27, Try.ntmps27
  go_wp2_with (first
   | ((with_reducible refine gate_dst (N := 5) rfl ?_); refine Kd.R_lit Kd.string _ 9 ?hg (N := 5) ?hd (xs := ([] : List ByteArray)) (inner := []) (ok := fun _ => True) (okp := fun _ => True) ?hr ?hp (fun _ hk => hk) trivial (Below.refl _ _) (Nat.le_refl _) (by simp) ?_; (case hd => rfl); (case hg => rfl); (case hr => exact hrw); (case hp => exact (Reps.none _ _)); intro v5 w5 ho5 hb5 hg_ hnew_; clear hg_ hnew_; have HO5 := am ho5; have HB5 := am hb5; clear ho5 hb5)
   | ((with_reducible refine gate_builtin (b := .append) (xs := #[.tmp 5, .tmp 6]) rfl ?_); at_builtin; refine Kd.R_append_rows Kd.string (w0 := w) w.heap.size rfl (.tmp 5) (.tmp 6) 22 9 (.string ⟨#[]⟩) 16 rfl Try.underlying22 info9 rfl (by decide) (by omega) v5 ([] : List ByteArray) l0 _ _ _ (fun _ => True) (fun _ => False) rfl rfl ?aO ?aR (fun _ _ h => h) (fun _ h => h.elim) ?aF ?aB ?aS ?aL ?_; (case aR => exact (Kd.C_below HR0.out HB5.out)); (case aB => exact HB5.out); (case aF => exact (fun _ _ => trivial)); (case aO => exact HO5.out); (case aS => exact below_size HB5.out); (case aL => have := HL.out; simp; omega); intro v7 w7 ho hb hg hat; have HO7 := am ho; have HB7 := am hb; clear ho hb hg hat; obtain ⟨A7, c7, e7⟩ := Kd.R_slice HO7.out; subst e7))
  go_ret
  exact ⟨_, rfw, HO7.out, HB7.out⟩

-- NOT PRINTED: function 42 (impl_Value_42)

-- NOT PRINTED: function 46 (impl_Value_46)

-- NOT PRINTED: function 45 (impl_Value_45)

-- NOT PRINTED: function 43 (impl_Value_43)

-- NOT PRINTED: function 38 (impl_Value_38)

-- NOT PRINTED: function 28 (impl_Value_28)

end Go.Proofs.Ytonimhfahjediaa.Pk
end
