/- Printed by a program of this session: what functions of the translation come to, each contract as it stands. No condition. -/
import Derived.Test.YtpmcedhcdmpmlaaDoorPn0
import Derived.Test.YtpmcedhcdmpmlaaDoorPn1
import Derived.Test.YtpmcedhcdmpmlaaDoorPn2
import Derived.Test.YtpmcedhcdmpmlaaDoorPn4
import Derived.Test.YtpmcedhcdmpmlaaDoorPn5
namespace Go.Proofs.YtpmcedhcdmpmlaaDoor.Pn
open Go.RowKit Go.Proofs.YtpmcedhcdmpmlaaDoor.Ext Go.Proofs.YtpmcedhcdmpmlaaDoorW.PrintWords Go.Proofs.YtpmcedhcdmpmlaaDoorW.PrintLast Go.Proofs.YtpmcedhcdmpmlaaDoorW.PrintMore
attribute [local go_sem] max2_int min2_int max_two min_two max_three min_three max_four min_four   -- for this text's walks alone
set_option linter.unusedVariables false
set_option linter.unusedSimpArgs false

/-! ### laws_FnNumbers: function 3 -/
def laws_FnNumbers.j0 : Nat → List Int → Bool → Option (Bool)
  | 0, _, _ => none
  | k + 1, x0, x50 => if x50 = true then (some false) else ((spec_DrawParseNumber.f k x0).bind fun t221 => ((impl_ParseNumber.f t221).bind fun bt222 => ((spec_ParseNumber.f k t221).bind fun bt224 => (if (bt222.2 == bt224.2) = true then (if bt222.2 = true then ((impl_FormatInt.f bt222.1).bind fun t226 => (if t226.toList = t221.toList then (some (decide (bt222.1 ≥ 0))) else (some false))) else (some true)) else (some false)))))
def laws_FnNumbers.f (k : Nat) (l0 : List Int) : Option (Bool) := (laws_big.f l0).bind fun t215 => (if t215 = true then (some true) else ((spec_DrawFormatInt.f k l0).bind fun t216 => ((impl_FormatInt.f t216).bind fun t217 => ((impl_ParseInt.f t217).bind fun bt218 => ((spec_FormatInt.f k t216).bind fun t220 => (if t217.toList = t220.toList then (if (t217.size : Int) ≤ 12 then (if (bt218.2 != true) = true then (laws_FnNumbers.j0 k l0 true) else (if bt218.2 = true then (laws_FnNumbers.j0 k l0 (bt218.1 != t216)) else (laws_FnNumbers.j0 k l0 false))) else (if t216 < 0 then (if (bt218.2 != (decide ((t217.size : Int) ≤ 13))) = true then (laws_FnNumbers.j0 k l0 true) else (if bt218.2 = true then (laws_FnNumbers.j0 k l0 (bt218.1 != t216)) else (laws_FnNumbers.j0 k l0 false))) else (if (bt218.2 != false) = true then (laws_FnNumbers.j0 k l0 true) else (if bt218.2 = true then (laws_FnNumbers.j0 k l0 (bt218.1 != t216)) else (laws_FnNumbers.j0 k l0 false))))) else (laws_FnNumbers.j0 k l0 true)))))))
theorem laws_FnNumbers.mono_l : ∀ k, (∀ y0 y1, LeO (laws_FnNumbers.j0 k y0 y1) (laws_FnNumbers.j0 (k + 1) y0 y1))
  | 0 => fun _ _ r h => by simp [laws_FnNumbers.j0] at h
  | k + 1 => by
    have ih0 := laws_FnNumbers.mono_l k
    · intro y0 y1
      unfold laws_FnNumbers.j0
      repeat' first
      | (with_reducible exact ih0 _ _)
      | (with_reducible exact spec_DrawFormatInt.mono _ _)
      | (with_reducible exact spec_DrawParseNumber.mono _ _)
      | (with_reducible exact spec_FormatInt.mono _ _)
      | (with_reducible exact spec_ParseNumber.mono _ _)
      | (with_reducible exact LeO.refl _)
      | (with_reducible exact LeO.none _)
      | (with_reducible refine LeO.ite ?_ ?_)
      | (with_reducible refine LeO.bind ?_ (fun _ => ?_))
      | exact ih0 _ _
      | exact spec_DrawFormatInt.mono _ _
      | exact spec_DrawParseNumber.mono _ _
      | exact spec_FormatInt.mono _ _
      | exact spec_ParseNumber.mono _ _
      | exact LeO.none _
      | refine LeO.ite ?_ ?_
      | refine LeO.bind ?_ (fun _ => ?_)
theorem laws_FnNumbers.mono : ∀ a0 k, LeO (laws_FnNumbers.f k a0) (laws_FnNumbers.f (k + 1) a0) := by
  intro a0 k
  have ih0 := laws_FnNumbers.mono_l k
  unfold laws_FnNumbers.f
  repeat' first
      | (with_reducible exact ih0 _ _)
      | (with_reducible exact spec_DrawFormatInt.mono _ _)
      | (with_reducible exact spec_DrawParseNumber.mono _ _)
      | (with_reducible exact spec_FormatInt.mono _ _)
      | (with_reducible exact spec_ParseNumber.mono _ _)
      | (with_reducible exact LeO.refl _)
      | (with_reducible exact LeO.none _)
      | (with_reducible refine LeO.ite ?_ ?_)
      | (with_reducible refine LeO.bind ?_ (fun _ => ?_))
      | exact ih0 _ _
      | exact spec_DrawFormatInt.mono _ _
      | exact spec_DrawParseNumber.mono _ _
      | exact spec_FormatInt.mono _ _
      | exact spec_ParseNumber.mono _ _
      | exact LeO.none _
      | refine LeO.ite ?_ ?_
      | refine LeO.bind ?_ (fun _ => ?_)
set_option maxHeartbeats 8000000 in
set_option maxRecDepth 100000 in
theorem laws_FnNumbers.calls (k : Nat) (A0 : Option Addr) (c0 : Nat) (l0 : List Int) (r : Bool) (w : World) (hr0 : Kd.C (Kd.int .u8) w A0 l0.length l0) (hc0 : l0.length ≤ c0) (hL : Laid w) (h : laws_FnNumbers.f k l0 = some r) :
    Calls Tryd.prog 3 #[.slice A0 l0.length c0] w fun e w' => e = .returned (.bool r) ∧ Below w.heap.size w w' := by
  have HR0 := Aside0.mk hr0
  have HC0 := Aside0.mk hc0
  clear hr0 hc0
  have HLD := Aside0.mk hL
  clear hL
  have HB := Aside0.mk (Below.refl w.heap.size w)
  have H : ((laws_big.f l0).bind fun t215 => (if t215 = true then (some true) else ((spec_DrawFormatInt.f k l0).bind fun t216 => ((impl_FormatInt.f t216).bind fun t217 => ((impl_ParseInt.f t217).bind fun bt218 => ((spec_FormatInt.f k t216).bind fun t220 => (if t217.toList = t220.toList then (if (t217.size : Int) ≤ 12 then (if (bt218.2 != true) = true then (laws_FnNumbers.j0 k l0 true) else (if bt218.2 = true then (laws_FnNumbers.j0 k l0 (bt218.1 != t216)) else (laws_FnNumbers.j0 k l0 false))) else (if t216 < 0 then (if (bt218.2 != (decide ((t217.size : Int) ≤ 13))) = true then (laws_FnNumbers.j0 k l0 true) else (if bt218.2 = true then (laws_FnNumbers.j0 k l0 (bt218.1 != t216)) else (laws_FnNumbers.j0 k l0 false))) else (if (bt218.2 != false) = true then (laws_FnNumbers.j0 k l0 true) else (if bt218.2 = true then (laws_FnNumbers.j0 k l0 (bt218.1 != t216)) else (laws_FnNumbers.j0 k l0 false))))) else (laws_FnNumbers.j0 k l0 true)))))))) = some r := h
  clear h
  replace H := Option.bind_eq_some_iff.mp H
  obtain ⟨t215, A20, H⟩ := H
  replace H : (if t215 = true then (some true) else ((spec_DrawFormatInt.f k l0).bind fun t216 => ((impl_FormatInt.f t216).bind fun t217 => ((impl_ParseInt.f t217).bind fun bt218 => ((spec_FormatInt.f k t216).bind fun t220 => (if t217.toList = t220.toList then (if (t217.size : Int) ≤ 12 then (if (bt218.2 != true) = true then (laws_FnNumbers.j0 k l0 true) else (if bt218.2 = true then (laws_FnNumbers.j0 k l0 (bt218.1 != t216)) else (laws_FnNumbers.j0 k l0 false))) else (if t216 < 0 then (if (bt218.2 != (decide ((t217.size : Int) ≤ 13))) = true then (laws_FnNumbers.j0 k l0 true) else (if bt218.2 = true then (laws_FnNumbers.j0 k l0 (bt218.1 != t216)) else (laws_FnNumbers.j0 k l0 false))) else (if (bt218.2 != false) = true then (laws_FnNumbers.j0 k l0 true) else (if bt218.2 = true then (laws_FnNumbers.j0 k l0 (bt218.1 != t216)) else (laws_FnNumbers.j0 k l0 false))))) else (laws_FnNumbers.j0 k l0 true))))))) = some r := H
  have A2 := Aside0.mk A20
  clear A20
  have HC3 := Aside0.mk H
  clear H
  go_enter Tryd.func3, Tryd.ntmps3
  go_upto_if 13 with (first | ((with_reducible refine gate_callee (f := 4) rfl ?_); refine goesL_ (some 13) rfl rfl Tryd.func4 (by kernel_rfl) rfl #[.slice A0 l0.length c0] rfl (by (try simp only [List.map_toArray, List.map_cons, List.map_nil]); first | done | rfl | (simp only [List.length_drop, List.length_take]; rfl)) ?_; (with_reducible refine (laws_big.calls _ _ l0 t215 _ ?side1 ?side2 A2.out).mono ?_); (case side1 => repeat (first | exact HR0.out | (with_reducible refine Kd.C_alloc ?_ _) | (with_reducible refine Kd.C_drewN ?_ _) | (with_reducible refine Kd.C_drew ?_))); (case side2 => exact HC0.out); rintro e w' ⟨rfl, ⟨nd, rfl⟩⟩; refine ⟨_, rfl, ?_⟩))
  have H := HC3.out
  clear HC3
  by_cases c4 : t215 = true
  · subst c4
    have H1 : (some true) = some r := by rw [if_pos rfl] at H; exact H
    clear H
    have H := H1
    clear H1
    obtain rfl := Option.some.inj H
    go_wp2
    go_ret
    exact ⟨by first | rfl | (simp [errW_none, errW_some] <;> rfl) | (simp [*, errW_none, errW_some] <;> rfl), by repeat (first | (with_reducible first | exact HB.out | apply below_alloc | apply pw_below_drewN | apply below_drew1) | exact HB.out)⟩
  · replace c4 := Bool.eq_false_iff.mpr c4
    subst c4
    have H1 : ((spec_DrawFormatInt.f k l0).bind fun t216 => ((impl_FormatInt.f t216).bind fun t217 => ((impl_ParseInt.f t217).bind fun bt218 => ((spec_FormatInt.f k t216).bind fun t220 => (if t217.toList = t220.toList then (if (t217.size : Int) ≤ 12 then (if (bt218.2 != true) = true then (laws_FnNumbers.j0 k l0 true) else (if bt218.2 = true then (laws_FnNumbers.j0 k l0 (bt218.1 != t216)) else (laws_FnNumbers.j0 k l0 false))) else (if t216 < 0 then (if (bt218.2 != (decide ((t217.size : Int) ≤ 13))) = true then (laws_FnNumbers.j0 k l0 true) else (if bt218.2 = true then (laws_FnNumbers.j0 k l0 (bt218.1 != t216)) else (laws_FnNumbers.j0 k l0 false))) else (if (bt218.2 != false) = true then (laws_FnNumbers.j0 k l0 true) else (if bt218.2 = true then (laws_FnNumbers.j0 k l0 (bt218.1 != t216)) else (laws_FnNumbers.j0 k l0 false))))) else (laws_FnNumbers.j0 k l0 true)))))) = some r := by rw [if_neg (show ¬ (false = true) by decide)] at H; exact H
    clear H
    have H := H1
    clear H1
    replace H := Option.bind_eq_some_iff.mp H
    obtain ⟨t216, A50, H⟩ := H
    replace H : ((impl_FormatInt.f t216).bind fun t217 => ((impl_ParseInt.f t217).bind fun bt218 => ((spec_FormatInt.f k t216).bind fun t220 => (if t217.toList = t220.toList then (if (t217.size : Int) ≤ 12 then (if (bt218.2 != true) = true then (laws_FnNumbers.j0 k l0 true) else (if bt218.2 = true then (laws_FnNumbers.j0 k l0 (bt218.1 != t216)) else (laws_FnNumbers.j0 k l0 false))) else (if t216 < 0 then (if (bt218.2 != (decide ((t217.size : Int) ≤ 13))) = true then (laws_FnNumbers.j0 k l0 true) else (if bt218.2 = true then (laws_FnNumbers.j0 k l0 (bt218.1 != t216)) else (laws_FnNumbers.j0 k l0 false))) else (if (bt218.2 != false) = true then (laws_FnNumbers.j0 k l0 true) else (if bt218.2 = true then (laws_FnNumbers.j0 k l0 (bt218.1 != t216)) else (laws_FnNumbers.j0 k l0 false))))) else (laws_FnNumbers.j0 k l0 true))))) = some r := H
    have A5 := Aside0.mk A50
    clear A50
    replace H := Option.bind_eq_some_iff.mp H
    obtain ⟨t217, A60, H⟩ := H
    replace H : ((impl_ParseInt.f t217).bind fun bt218 => ((spec_FormatInt.f k t216).bind fun t220 => (if t217.toList = t220.toList then (if (t217.size : Int) ≤ 12 then (if (bt218.2 != true) = true then (laws_FnNumbers.j0 k l0 true) else (if bt218.2 = true then (laws_FnNumbers.j0 k l0 (bt218.1 != t216)) else (laws_FnNumbers.j0 k l0 false))) else (if t216 < 0 then (if (bt218.2 != (decide ((t217.size : Int) ≤ 13))) = true then (laws_FnNumbers.j0 k l0 true) else (if bt218.2 = true then (laws_FnNumbers.j0 k l0 (bt218.1 != t216)) else (laws_FnNumbers.j0 k l0 false))) else (if (bt218.2 != false) = true then (laws_FnNumbers.j0 k l0 true) else (if bt218.2 = true then (laws_FnNumbers.j0 k l0 (bt218.1 != t216)) else (laws_FnNumbers.j0 k l0 false))))) else (laws_FnNumbers.j0 k l0 true)))) = some r := H
    have A6 := Aside0.mk A60
    clear A60
    replace H := Option.bind_eq_some_iff.mp H
    obtain ⟨⟨t218, t219⟩, A70, H⟩ := H
    replace H : ((spec_FormatInt.f k t216).bind fun t220 => (if t217.toList = t220.toList then (if (t217.size : Int) ≤ 12 then (if (t219 != true) = true then (laws_FnNumbers.j0 k l0 true) else (if t219 = true then (laws_FnNumbers.j0 k l0 (t218 != t216)) else (laws_FnNumbers.j0 k l0 false))) else (if t216 < 0 then (if (t219 != (decide ((t217.size : Int) ≤ 13))) = true then (laws_FnNumbers.j0 k l0 true) else (if t219 = true then (laws_FnNumbers.j0 k l0 (t218 != t216)) else (laws_FnNumbers.j0 k l0 false))) else (if (t219 != false) = true then (laws_FnNumbers.j0 k l0 true) else (if t219 = true then (laws_FnNumbers.j0 k l0 (t218 != t216)) else (laws_FnNumbers.j0 k l0 false))))) else (laws_FnNumbers.j0 k l0 true))) = some r := H
    have A7 := Aside0.mk A70
    clear A70
    have HC8 := Aside0.mk H
    clear H
    go_upto_region 6 with (first | ((with_reducible refine gate_callee (f := 5) rfl ?_); refine goesL_ (some 15) rfl rfl Tryd.func5 (by kernel_rfl) rfl #[.slice A0 l0.length c0] rfl (by (try simp only [List.map_toArray, List.map_cons, List.map_nil]); first | done | rfl | (simp only [List.length_drop, List.length_take]; rfl)) ?_; (with_reducible refine (spec_DrawFormatInt.calls k _ _ l0 t216 _ ?side1 ?side2 A5.out).mono ?_); (case side1 => repeat (first | exact (Kd.C_below HR0.out HB.out) | (with_reducible refine Kd.C_alloc ?_ _) | (with_reducible refine Kd.C_drewN ?_ _) | (with_reducible refine Kd.C_drew ?_))); (case side2 => exact HC0.out); rintro e w9 ⟨rfl, hb⟩; refine ⟨_, rfl, ?_⟩; have n0_ := Aside0.mk (below_step (by repeat (first | (with_reducible first | exact HB.out | apply below_alloc | apply pw_below_drewN | apply below_drew1) | exact HB.out)) hb); clear HB; have HB := n0_; clear n0_; (try clear hb); (try clear hb2); (try clear hk); (try clear hi)) | ((with_reducible refine gate_callee (f := 6) rfl ?_); refine goesL_ (some 17) rfl rfl Tryd.func6 (by kernel_rfl) rfl #[.int .i64 t216] rfl (by (try simp only [List.map_toArray, List.map_cons, List.map_nil]); first | done | rfl | (simp only [List.length_drop, List.length_take]; rfl)) ?_; (with_reducible refine (impl_FormatInt.calls t216 t217 _ ?side1 A6.out).mono ?_); (case side1 => repeat (first | exact (Laid_below HLD.out HB.out) | (with_reducible refine Laid_alloc ?_ _) | (with_reducible refine Laid_drewN ?_ _) | (with_reducible refine Laid_drew ?_))); rintro e w10 ⟨rfl, hb⟩; refine ⟨_, rfl, ?_⟩; have n0_ := Aside0.mk (below_step (by repeat (first | (with_reducible first | exact HB.out | apply below_alloc | apply pw_below_drewN | apply below_drew1) | exact HB.out)) hb); clear HB; have HB := n0_; clear n0_; (try clear hb); (try clear hb2); (try clear hk); (try clear hi)) | ((with_reducible refine gate_callee (f := 7) rfl ?_); refine goesL_ (some 20) rfl rfl Tryd.func7 (by kernel_rfl) rfl #[.string t217] rfl (by (try simp only [List.map_toArray, List.map_cons, List.map_nil]); first | done | rfl | (simp only [List.length_drop, List.length_take]; rfl)) ?_; (with_reducible refine (impl_ParseInt.calls t217 t218 t219 _ ?side1 A7.out).mono ?_); (case side1 => repeat (first | exact (Laid_below HLD.out HB.out) | (with_reducible refine Laid_alloc ?_ _) | (with_reducible refine Laid_drewN ?_ _) | (with_reducible refine Laid_drew ?_))); rintro e w11 ⟨rfl, hb⟩; refine ⟨_, rfl, ?_⟩; have n0_ := Aside0.mk (below_step (by repeat (first | (with_reducible first | exact HB.out | apply below_alloc | apply pw_below_drewN | apply below_drew1) | exact HB.out)) hb); clear HB; have HB := n0_; clear n0_; (try clear hb); (try clear hb2); (try clear hk); (try clear hi)))
    (try simp only [Act.put, List.setIfInBounds_toArray, List.set_cons_zero, List.set_cons_succ])
    go_cut [50] (fun v50 wc => ∃ (kq : Nat) (x50_7 : Bool), v50 = .bool x50_7 ∧ Aside0 (laws_FnNumbers.j0 kq l0 x50_7 = some r) ∧ Aside0 (kq ≤ k) ∧ Aside0 (Below w.heap.size w wc))
    case first =>
      have H := HC8.out
      clear HC8
      replace H := Option.bind_eq_some_iff.mp H
      obtain ⟨t220, A120, H⟩ := H
      replace H : (if t217.toList = t220.toList then (if (t217.size : Int) ≤ 12 then (if (t219 != true) = true then (laws_FnNumbers.j0 k l0 true) else (if t219 = true then (laws_FnNumbers.j0 k l0 (t218 != t216)) else (laws_FnNumbers.j0 k l0 false))) else (if t216 < 0 then (if (t219 != (decide ((t217.size : Int) ≤ 13))) = true then (laws_FnNumbers.j0 k l0 true) else (if t219 = true then (laws_FnNumbers.j0 k l0 (t218 != t216)) else (laws_FnNumbers.j0 k l0 false))) else (if (t219 != false) = true then (laws_FnNumbers.j0 k l0 true) else (if t219 = true then (laws_FnNumbers.j0 k l0 (t218 != t216)) else (laws_FnNumbers.j0 k l0 false))))) else (laws_FnNumbers.j0 k l0 true)) = some r := H
      have A12 := Aside0.mk A120
      clear A120
      by_cases c13 : t217.toList = t220.toList
      · rw [if_pos c13] at H
        have c13b0 : (t217.toList == t220.toList) = true := beq_iff_eq.mpr c13
        have c13b1 : (t217.toList != t220.toList) = false := bne_eq_false_iff_eq.mpr c13
        clear c13
        (first | rw [c13b0] | (simp only [i64_w, i32_w]; rw [c13b0]) | (rw [c13b1]; (try simp only [Bool.not_true, Bool.not_false])) | skip)
        by_cases c14 : (t217.size : Int) ≤ 12
        · rw [if_pos c14] at H
          have c14b0 : decide ((t217.size : Int) ≤ 12) = true := decide_eq_true c14
          have c14b1 : decide (t217.size ≤ 12) = true := decide_eq_true (by omega)
          clear c14
          by_cases c15 : (t219 != true) = true
          · rw [if_pos c15] at H
            obtain rfl : t219 = false := by cases t219 <;> simp_all
            have c15b0 : (false != true) = true := c15
            clear c15
            have H' := Aside0.mk H
            clear H
            go_wp2_with (first | ((with_reducible refine gate_callee (f := 8) rfl ?_); refine goesL_ (some 25) rfl rfl Tryd.func8 (by kernel_rfl) rfl #[.int .i64 t216] rfl (by (try simp only [List.map_toArray, List.map_cons, List.map_nil]); first | done | rfl | (simp only [List.length_drop, List.length_take]; rfl)) ?_; (with_reducible refine (spec_FormatInt.calls k t216 t220 _ A12.out).mono ?_); rintro e w16 ⟨rfl, hb⟩; refine ⟨_, rfl, ?_⟩; have n0_ := Aside0.mk (below_step (by repeat (first | (with_reducible first | exact HB.out | apply below_alloc | apply pw_below_drewN | apply below_drew1) | exact HB.out)) hb); clear HB; have HB := n0_; clear n0_; (try clear hb); (try clear hb2); (try clear hk); (try clear hi)))
            go_meet
            case rel => exact ⟨_, (true), (by first | rfl | (simp; done) | (simp [i64_w, i32_w]; done) | (simp [*]; done)), H', ⟨by first | omega | exact Nat.le_refl _⟩, ⟨by repeat (first | (with_reducible first | exact HB.out | apply below_alloc | apply pw_below_drewN | apply below_drew1) | exact HB.out)⟩⟩
          · rw [if_neg c15] at H
            have c15b0 : (t219 != true) = false := by simpa using c15
            (try (have c15b1 : decide (t219 = true) = true := by simpa using c15))
            (try (have c15b2 : (t219 == true) = true := by simpa using c15))
            clear c15
            by_cases c17 : t219 = true
            · subst c17
              (try (have c18q := c15b0; simp at c18q))
              (try (have c19q := c15b2; simp at c19q))
              have H1 : (laws_FnNumbers.j0 k l0 (t218 != t216)) = some r := by rw [if_pos rfl] at H; exact H
              clear H
              have H := H1
              clear H1
              have H' := Aside0.mk H
              clear H
              go_wp2_with (first | ((with_reducible refine gate_callee (f := 8) rfl ?_); refine goesL_ (some 25) rfl rfl Tryd.func8 (by kernel_rfl) rfl #[.int .i64 t216] rfl (by (try simp only [List.map_toArray, List.map_cons, List.map_nil]); first | done | rfl | (simp only [List.length_drop, List.length_take]; rfl)) ?_; (with_reducible refine (spec_FormatInt.calls k t216 t220 _ A12.out).mono ?_); rintro e w20 ⟨rfl, hb⟩; refine ⟨_, rfl, ?_⟩; have n0_ := Aside0.mk (below_step (by repeat (first | (with_reducible first | exact HB.out | apply below_alloc | apply pw_below_drewN | apply below_drew1) | exact HB.out)) hb); clear HB; have HB := n0_; clear n0_; (try clear hb); (try clear hb2); (try clear hk); (try clear hi)))
              go_meet
              case rel => exact ⟨_, ((t218 != t216)), (by first | rfl | (simp; done) | (simp [i64_w, i32_w]; done) | (simp [*]; done)), H', ⟨by first | omega | exact Nat.le_refl _⟩, ⟨by repeat (first | (with_reducible first | exact HB.out | apply below_alloc | apply pw_below_drewN | apply below_drew1) | exact HB.out)⟩⟩
            · replace c17 := Bool.eq_false_iff.mpr c17
              subst c17
              exact absurd c15b0 (by simp)
        · rw [if_neg c14] at H
          have c14b0 : decide ((t217.size : Int) ≤ 12) = false := decide_eq_false c14
          have c14b1 : decide (t217.size ≤ 12) = false := decide_eq_false (by omega)
          clear c14
          by_cases c24 : t216 < 0
          · rw [if_pos c24] at H
            have c24b0 : decide (t216 < 0) = true := decide_eq_true c24
            clear c24
            by_cases c25 : (t219 != (decide ((t217.size : Int) ≤ 13))) = true
            · rw [if_pos c25] at H
              have c25b0 : (t219 != (decide ((t217.size : Int) ≤ 13))) = true := c25
              (try (have c25b1 : decide (t219 = (decide ((t217.size : Int) ≤ 13))) = false := by simpa using c25))
              (try (have c25b2 : (t219 == (decide ((t217.size : Int) ≤ 13))) = false := by simpa using c25))
              (try (have c25b3 : ¬ (t219 = (decide ((t217.size : Int) ≤ 13))) := by simpa using c25))
              clear c25
              have H' := Aside0.mk H
              clear H
              go_wp2_with (first | ((with_reducible refine gate_callee (f := 8) rfl ?_); refine goesL_ (some 25) rfl rfl Tryd.func8 (by kernel_rfl) rfl #[.int .i64 t216] rfl (by (try simp only [List.map_toArray, List.map_cons, List.map_nil]); first | done | rfl | (simp only [List.length_drop, List.length_take]; rfl)) ?_; (with_reducible refine (spec_FormatInt.calls k t216 t220 _ A12.out).mono ?_); rintro e w26 ⟨rfl, hb⟩; refine ⟨_, rfl, ?_⟩; have n0_ := Aside0.mk (below_step (by repeat (first | (with_reducible first | exact HB.out | apply below_alloc | apply pw_below_drewN | apply below_drew1) | exact HB.out)) hb); clear HB; have HB := n0_; clear n0_; (try clear hb); (try clear hb2); (try clear hk); (try clear hi)))
              go_meet
              case rel => exact ⟨_, (true), (by first | rfl | (simp; done) | (simp [i64_w, i32_w]; done) | (simp [*]; done)), H', ⟨by first | omega | exact Nat.le_refl _⟩, ⟨by repeat (first | (with_reducible first | exact HB.out | apply below_alloc | apply pw_below_drewN | apply below_drew1) | exact HB.out)⟩⟩
            · rw [if_neg c25] at H
              have c25b0 : (t219 != (decide ((t217.size : Int) ≤ 13))) = false := by simpa using c25
              (try (have c25b1 : decide (t219 = (decide ((t217.size : Int) ≤ 13))) = true := by simpa using c25))
              (try (have c25b2 : (t219 == (decide ((t217.size : Int) ≤ 13))) = true := by simpa using c25))
              clear c25
              by_cases c27 : t219 = true
              · subst c27
                (try (have c28q := c15b0; simp at c28q))
                (try (have c29q := c15b2; simp at c29q))
                have H1 : (laws_FnNumbers.j0 k l0 (t218 != t216)) = some r := by rw [if_pos rfl] at H; exact H
                clear H
                have H := H1
                clear H1
                have H' := Aside0.mk H
                clear H
                go_wp2_with (first | ((with_reducible refine gate_callee (f := 8) rfl ?_); refine goesL_ (some 25) rfl rfl Tryd.func8 (by kernel_rfl) rfl #[.int .i64 t216] rfl (by (try simp only [List.map_toArray, List.map_cons, List.map_nil]); first | done | rfl | (simp only [List.length_drop, List.length_take]; rfl)) ?_; (with_reducible refine (spec_FormatInt.calls k t216 t220 _ A12.out).mono ?_); rintro e w30 ⟨rfl, hb⟩; refine ⟨_, rfl, ?_⟩; have n0_ := Aside0.mk (below_step (by repeat (first | (with_reducible first | exact HB.out | apply below_alloc | apply pw_below_drewN | apply below_drew1) | exact HB.out)) hb); clear HB; have HB := n0_; clear n0_; (try clear hb); (try clear hb2); (try clear hk); (try clear hi)))
                go_meet
                case rel => exact ⟨_, ((t218 != t216)), (by first | rfl | (simp; done) | (simp [i64_w, i32_w]; done) | (simp [*]; done)), H', ⟨by first | omega | exact Nat.le_refl _⟩, ⟨by repeat (first | (with_reducible first | exact HB.out | apply below_alloc | apply pw_below_drewN | apply below_drew1) | exact HB.out)⟩⟩
              · replace c27 := Bool.eq_false_iff.mpr c27
                subst c27
                (try (have c31q := c15b0; simp at c31q))
                (try (have c32q := c15b2; simp at c32q))
                have H1 : (laws_FnNumbers.j0 k l0 false) = some r := by rw [if_neg (show ¬ (false = true) by decide)] at H; exact H
                clear H
                have H := H1
                clear H1
                have H' := Aside0.mk H
                clear H
                go_wp2_with (first | ((with_reducible refine gate_callee (f := 8) rfl ?_); refine goesL_ (some 25) rfl rfl Tryd.func8 (by kernel_rfl) rfl #[.int .i64 t216] rfl (by (try simp only [List.map_toArray, List.map_cons, List.map_nil]); first | done | rfl | (simp only [List.length_drop, List.length_take]; rfl)) ?_; (with_reducible refine (spec_FormatInt.calls k t216 t220 _ A12.out).mono ?_); rintro e w33 ⟨rfl, hb⟩; refine ⟨_, rfl, ?_⟩; have n0_ := Aside0.mk (below_step (by repeat (first | (with_reducible first | exact HB.out | apply below_alloc | apply pw_below_drewN | apply below_drew1) | exact HB.out)) hb); clear HB; have HB := n0_; clear n0_; (try clear hb); (try clear hb2); (try clear hk); (try clear hi)))
                go_meet
                case rel => exact ⟨_, (false), (by first | rfl | (simp; done) | (simp [i64_w, i32_w]; done) | (simp [*]; done)), H', ⟨by first | omega | exact Nat.le_refl _⟩, ⟨by repeat (first | (with_reducible first | exact HB.out | apply below_alloc | apply pw_below_drewN | apply below_drew1) | exact HB.out)⟩⟩
          · rw [if_neg c24] at H
            have c24b0 : decide (t216 < 0) = false := decide_eq_false c24
            clear c24
            by_cases c34 : (t219 != false) = true
            · rw [if_pos c34] at H
              obtain rfl : t219 = true := by cases t219 <;> simp_all
              have c34b0 : (true != false) = true := c34
              clear c34
              have H' := Aside0.mk H
              clear H
              go_wp2_with (first | ((with_reducible refine gate_callee (f := 8) rfl ?_); refine goesL_ (some 25) rfl rfl Tryd.func8 (by kernel_rfl) rfl #[.int .i64 t216] rfl (by (try simp only [List.map_toArray, List.map_cons, List.map_nil]); first | done | rfl | (simp only [List.length_drop, List.length_take]; rfl)) ?_; (with_reducible refine (spec_FormatInt.calls k t216 t220 _ A12.out).mono ?_); rintro e w35 ⟨rfl, hb⟩; refine ⟨_, rfl, ?_⟩; have n0_ := Aside0.mk (below_step (by repeat (first | (with_reducible first | exact HB.out | apply below_alloc | apply pw_below_drewN | apply below_drew1) | exact HB.out)) hb); clear HB; have HB := n0_; clear n0_; (try clear hb); (try clear hb2); (try clear hk); (try clear hi)))
              go_meet
              case rel => exact ⟨_, (true), (by first | rfl | (simp; done) | (simp [i64_w, i32_w]; done) | (simp [*]; done)), H', ⟨by first | omega | exact Nat.le_refl _⟩, ⟨by repeat (first | (with_reducible first | exact HB.out | apply below_alloc | apply pw_below_drewN | apply below_drew1) | exact HB.out)⟩⟩
            · rw [if_neg c34] at H
              have c34b0 : (t219 != false) = false := by simpa using c34
              (try (have c34b1 : decide (t219 = false) = true := by simpa using c34))
              (try (have c34b2 : (t219 == false) = true := by simpa using c34))
              clear c34
              by_cases c36 : t219 = true
              · subst c36
                exact absurd c34b0 (by simp)
              · replace c36 := Bool.eq_false_iff.mpr c36
                subst c36
                (try (have c42q := c15b0; simp at c42q))
                (try (have c43q := c15b2; simp at c43q))
                (try (have c44q := c34b0; simp at c44q))
                (try (have c45q := c34b2; simp at c45q))
                have H1 : (laws_FnNumbers.j0 k l0 false) = some r := by rw [if_neg (show ¬ (false = true) by decide)] at H; exact H
                clear H
                have H := H1
                clear H1
                have H' := Aside0.mk H
                clear H
                go_wp2_with (first | ((with_reducible refine gate_callee (f := 8) rfl ?_); refine goesL_ (some 25) rfl rfl Tryd.func8 (by kernel_rfl) rfl #[.int .i64 t216] rfl (by (try simp only [List.map_toArray, List.map_cons, List.map_nil]); first | done | rfl | (simp only [List.length_drop, List.length_take]; rfl)) ?_; (with_reducible refine (spec_FormatInt.calls k t216 t220 _ A12.out).mono ?_); rintro e w46 ⟨rfl, hb⟩; refine ⟨_, rfl, ?_⟩; have n0_ := Aside0.mk (below_step (by repeat (first | (with_reducible first | exact HB.out | apply below_alloc | apply pw_below_drewN | apply below_drew1) | exact HB.out)) hb); clear HB; have HB := n0_; clear n0_; (try clear hb); (try clear hb2); (try clear hk); (try clear hi)))
                go_meet
                case rel => exact ⟨_, (false), (by first | rfl | (simp; done) | (simp [i64_w, i32_w]; done) | (simp [*]; done)), H', ⟨by first | omega | exact Nat.le_refl _⟩, ⟨by repeat (first | (with_reducible first | exact HB.out | apply below_alloc | apply pw_below_drewN | apply below_drew1) | exact HB.out)⟩⟩
      · rw [if_neg c13] at H
        have c13b0 : (t217.toList == t220.toList) = false := beq_eq_false_iff_ne.mpr c13
        have c13b1 : (t217.toList != t220.toList) = true := bne_iff_ne.mpr c13
        (first | rw [c13b0] | (simp only [i64_w, i32_w]; rw [c13b0]) | (rw [c13b1]; (try simp only [Bool.not_true, Bool.not_false])) | skip)
        have H' := Aside0.mk H
        clear H
        go_wp2_with (first | ((with_reducible refine gate_callee (f := 8) rfl ?_); refine goesL_ (some 25) rfl rfl Tryd.func8 (by kernel_rfl) rfl #[.int .i64 t216] rfl (by (try simp only [List.map_toArray, List.map_cons, List.map_nil]); first | done | rfl | (simp only [List.length_drop, List.length_take]; rfl)) ?_; (with_reducible refine (spec_FormatInt.calls k t216 t220 _ A12.out).mono ?_); rintro e w47 ⟨rfl, hb⟩; refine ⟨_, rfl, ?_⟩; have n0_ := Aside0.mk (below_step (by repeat (first | (with_reducible first | exact HB.out | apply below_alloc | apply pw_below_drewN | apply below_drew1) | exact HB.out)) hb); clear HB; have HB := n0_; clear n0_; (try clear hb); (try clear hb2); (try clear hk); (try clear hi)))
        go_meet
        case rel => exact ⟨_, (true), (by first | rfl | (simp; done) | (simp [i64_w, i32_w]; done) | (simp [*]; done)), H', ⟨by first | omega | exact Nat.le_refl _⟩, ⟨by repeat (first | (with_reducible first | exact HB.out | apply below_alloc | apply pw_below_drewN | apply below_drew1) | exact HB.out)⟩⟩
    case rest =>
      clear HC8
      try clear c1
      try clear c2
      try clear p2
      try clear c3
      try clear c4
      try clear c5
      try clear c6
      try clear c7
      try clear c8
      try clear c13
      try clear c13b0
      try clear c13b1
      try clear c14
      try clear c14b0
      try clear c14b1
      try clear c15
      try clear c15b0
      try clear c15b1
      try clear c15b2
      try clear c17
      try clear c18
      try clear c19
      try clear c21
      try clear c22
      try clear c24
      try clear c24b0
      try clear c25
      try clear c25b0
      try clear c25b1
      try clear c25b2
      try clear c27
      try clear c28
      try clear c29
      try clear c31
      try clear c32
      try clear c34
      try clear c34b0
      try clear c34b1
      try clear c34b2
      try clear c36
      try clear c37
      try clear c38
      try clear c39
      try clear c40
      try clear c42
      try clear c43
      try clear c44
      try clear c45
      obtain ⟨kq, x50_7, rfl, HA, HJ7, HB⟩ := hcut
      cases kq with
      | zero => exact absurd HA.out (by simp [laws_FnNumbers.j0])
      | succ kj7 =>
        have H := HA.out
        clear HA
        simp only [laws_FnNumbers.j0] at H
        by_cases c48 : x50_7 = true
        · subst c48
          have H1 : (some false) = some r := by rw [if_pos rfl] at H; exact H
          clear H
          have H := H1
          clear H1
          obtain rfl := Option.some.inj H
          go_wp2
          go_ret
          exact ⟨by first | rfl | (simp [errW_none, errW_some] <;> rfl) | (simp [*, errW_none, errW_some] <;> rfl), by repeat (first | (with_reducible first | exact HB.out | apply below_alloc | apply pw_below_drewN | apply below_drew1) | exact HB.out)⟩
        · replace c48 := Bool.eq_false_iff.mpr c48
          subst c48
          have H1 : ((spec_DrawParseNumber.f kj7 l0).bind fun t221 => ((impl_ParseNumber.f t221).bind fun bt222 => ((spec_ParseNumber.f kj7 t221).bind fun bt224 => (if (bt222.2 == bt224.2) = true then (if bt222.2 = true then ((impl_FormatInt.f bt222.1).bind fun t226 => (if t226.toList = t221.toList then (some (decide (bt222.1 ≥ 0))) else (some false))) else (some true)) else (some false))))) = some r := by rw [if_neg (show ¬ (false = true) by decide)] at H; exact H
          clear H
          have H := H1
          clear H1
          replace H := Option.bind_eq_some_iff.mp H
          obtain ⟨t221, A490, H⟩ := H
          replace H : ((impl_ParseNumber.f t221).bind fun bt222 => ((spec_ParseNumber.f kj7 t221).bind fun bt224 => (if (bt222.2 == bt224.2) = true then (if bt222.2 = true then ((impl_FormatInt.f bt222.1).bind fun t226 => (if t226.toList = t221.toList then (some (decide (bt222.1 ≥ 0))) else (some false))) else (some true)) else (some false)))) = some r := H
          have A49 := Aside0.mk A490
          clear A490
          replace H := Option.bind_eq_some_iff.mp H
          obtain ⟨⟨t222, t223⟩, A500, H⟩ := H
          replace H : ((spec_ParseNumber.f kj7 t221).bind fun bt224 => (if (t223 == bt224.2) = true then (if t223 = true then ((impl_FormatInt.f t222).bind fun t226 => (if t226.toList = t221.toList then (some (decide (t222 ≥ 0))) else (some false))) else (some true)) else (some false))) = some r := H
          have A50 := Aside0.mk A500
          clear A500
          replace H := Option.bind_eq_some_iff.mp H
          obtain ⟨⟨t224, t225⟩, A510, H⟩ := H
          replace H : (if (t223 == t225) = true then (if t223 = true then ((impl_FormatInt.f t222).bind fun t226 => (if t226.toList = t221.toList then (some (decide (t222 ≥ 0))) else (some false))) else (some true)) else (some false)) = some r := H
          have A51 := Aside0.mk A510
          clear A510
          by_cases c52 : (t223 == t225) = true
          · rw [if_pos c52] at H
            have c52b0 : (t223 == t225) = true := c52
            (try (have c52b1 : decide (t223 = t225) = true := by simpa using c52))
            (try (have c52b2 : (t223 == t225) = true := by simpa using c52))
            clear c52
            by_cases c53 : t223 = true
            · subst c53
              (try (have c54q := c52b0; simp at c54q))
              (try (have c55q := c52b2; simp at c55q))
              have H1 : ((impl_FormatInt.f t222).bind fun t226 => (if t226.toList = t221.toList then (some (decide (t222 ≥ 0))) else (some false))) = some r := by rw [if_pos rfl] at H; exact H
              clear H
              have H := H1
              clear H1
              replace H := Option.bind_eq_some_iff.mp H
              obtain ⟨t226, A560, H⟩ := H
              replace H : (if t226.toList = t221.toList then (some (decide (t222 ≥ 0))) else (some false)) = some r := H
              have A56 := Aside0.mk A560
              clear A560
              by_cases c57 : t226.toList = t221.toList
              · rw [if_pos c57] at H
                have c57b0 : (t226.toList == t221.toList) = true := beq_iff_eq.mpr c57
                have c57b1 : (t226.toList != t221.toList) = false := bne_eq_false_iff_eq.mpr c57
                clear c57
                obtain rfl := Option.some.inj H
                go_wp2_with (first | ((with_reducible refine gate_callee (f := 9) rfl ?_); refine goesL_ (some 52) rfl rfl Tryd.func9 (by kernel_rfl) rfl #[.slice A0 l0.length c0] rfl (by (try simp only [List.map_toArray, List.map_cons, List.map_nil]); first | done | rfl | (simp only [List.length_drop, List.length_take]; rfl)) ?_; (with_reducible refine (spec_DrawParseNumber.calls kj7 _ _ l0 t221 _ ?side1 ?side2 A49.out).mono ?_); (case side1 => repeat (first | exact (Kd.C_below HR0.out HB.out) | (with_reducible refine Kd.C_alloc ?_ _) | (with_reducible refine Kd.C_drewN ?_ _) | (with_reducible refine Kd.C_drew ?_))); (case side2 => exact HC0.out); rintro e w58 ⟨rfl, hb⟩; refine ⟨_, rfl, ?_⟩; have n0_ := Aside0.mk (below_step (by repeat (first | (with_reducible first | exact HB.out | apply below_alloc | apply pw_below_drewN | apply below_drew1) | exact HB.out)) hb); clear HB; have HB := n0_; clear n0_; (try clear hb); (try clear hb2); (try clear hk); (try clear hi)) | ((with_reducible refine gate_callee (f := 10) rfl ?_); refine goesL_ (some 55) rfl rfl Tryd.func10 (by kernel_rfl) rfl #[.string t221] rfl (by (try simp only [List.map_toArray, List.map_cons, List.map_nil]); first | done | rfl | (simp only [List.length_drop, List.length_take]; rfl)) ?_; (with_reducible refine (impl_ParseNumber.calls t221 t222 true _ ?side1 A50.out).mono ?_); (case side1 => repeat (first | exact (Laid_below HLD.out HB.out) | (with_reducible refine Laid_alloc ?_ _) | (with_reducible refine Laid_drewN ?_ _) | (with_reducible refine Laid_drew ?_))); rintro e w59 ⟨rfl, hb⟩; refine ⟨_, rfl, ?_⟩; have n0_ := Aside0.mk (below_step (by repeat (first | (with_reducible first | exact HB.out | apply below_alloc | apply pw_below_drewN | apply below_drew1) | exact HB.out)) hb); clear HB; have HB := n0_; clear n0_; (try clear hb); (try clear hb2); (try clear hk); (try clear hi)) | ((with_reducible refine gate_callee (f := 11) rfl ?_); refine goesL_ (some 60) rfl rfl Tryd.func11 (by kernel_rfl) rfl #[.string t221] rfl (by (try simp only [List.map_toArray, List.map_cons, List.map_nil]); first | done | rfl | (simp only [List.length_drop, List.length_take]; rfl)) ?_; (with_reducible refine (spec_ParseNumber.calls kj7 t221 t224 t225 _ A51.out).mono ?_); rintro e w60 ⟨rfl, hb⟩; refine ⟨_, rfl, ?_⟩; have n0_ := Aside0.mk (below_step (by repeat (first | (with_reducible first | exact HB.out | apply below_alloc | apply pw_below_drewN | apply below_drew1) | exact HB.out)) hb); clear HB; have HB := n0_; clear n0_; (try clear hb); (try clear hb2); (try clear hk); (try clear hi)) | (go_at_call 6; (with_reducible refine (impl_FormatInt.calls t222 t226 _ ?side1 A56.out).mono ?_); (case side1 => repeat (first | exact (Laid_below HLD.out HB.out) | (with_reducible refine Laid_alloc ?_ _) | (with_reducible refine Laid_drewN ?_ _) | (with_reducible refine Laid_drew ?_))); rintro e w61 ⟨rfl, hb⟩; have n0_ := Aside0.mk (below_step (by repeat (first | (with_reducible first | exact HB.out | apply below_alloc | apply pw_below_drewN | apply below_drew1) | exact HB.out)) hb); clear HB; have HB := n0_; clear n0_; (try clear hb); (try clear hb2); (try clear hk); (try clear hi)))
                go_ret
                exact ⟨by first | rfl | (simp [errW_none, errW_some] <;> rfl) | (simp [*, errW_none, errW_some] <;> rfl), by repeat (first | (with_reducible first | exact HB.out | apply below_alloc | apply pw_below_drewN | apply below_drew1) | exact HB.out)⟩
              · rw [if_neg c57] at H
                have c57b0 : (t226.toList == t221.toList) = false := beq_eq_false_iff_ne.mpr c57
                have c57b1 : (t226.toList != t221.toList) = true := bne_iff_ne.mpr c57
                obtain rfl := Option.some.inj H
                go_wp2_with (first | ((with_reducible refine gate_callee (f := 9) rfl ?_); refine goesL_ (some 52) rfl rfl Tryd.func9 (by kernel_rfl) rfl #[.slice A0 l0.length c0] rfl (by (try simp only [List.map_toArray, List.map_cons, List.map_nil]); first | done | rfl | (simp only [List.length_drop, List.length_take]; rfl)) ?_; (with_reducible refine (spec_DrawParseNumber.calls kj7 _ _ l0 t221 _ ?side1 ?side2 A49.out).mono ?_); (case side1 => repeat (first | exact (Kd.C_below HR0.out HB.out) | (with_reducible refine Kd.C_alloc ?_ _) | (with_reducible refine Kd.C_drewN ?_ _) | (with_reducible refine Kd.C_drew ?_))); (case side2 => exact HC0.out); rintro e w62 ⟨rfl, hb⟩; refine ⟨_, rfl, ?_⟩; have n0_ := Aside0.mk (below_step (by repeat (first | (with_reducible first | exact HB.out | apply below_alloc | apply pw_below_drewN | apply below_drew1) | exact HB.out)) hb); clear HB; have HB := n0_; clear n0_; (try clear hb); (try clear hb2); (try clear hk); (try clear hi)) | ((with_reducible refine gate_callee (f := 10) rfl ?_); refine goesL_ (some 55) rfl rfl Tryd.func10 (by kernel_rfl) rfl #[.string t221] rfl (by (try simp only [List.map_toArray, List.map_cons, List.map_nil]); first | done | rfl | (simp only [List.length_drop, List.length_take]; rfl)) ?_; (with_reducible refine (impl_ParseNumber.calls t221 t222 true _ ?side1 A50.out).mono ?_); (case side1 => repeat (first | exact (Laid_below HLD.out HB.out) | (with_reducible refine Laid_alloc ?_ _) | (with_reducible refine Laid_drewN ?_ _) | (with_reducible refine Laid_drew ?_))); rintro e w63 ⟨rfl, hb⟩; refine ⟨_, rfl, ?_⟩; have n0_ := Aside0.mk (below_step (by repeat (first | (with_reducible first | exact HB.out | apply below_alloc | apply pw_below_drewN | apply below_drew1) | exact HB.out)) hb); clear HB; have HB := n0_; clear n0_; (try clear hb); (try clear hb2); (try clear hk); (try clear hi)) | ((with_reducible refine gate_callee (f := 11) rfl ?_); refine goesL_ (some 60) rfl rfl Tryd.func11 (by kernel_rfl) rfl #[.string t221] rfl (by (try simp only [List.map_toArray, List.map_cons, List.map_nil]); first | done | rfl | (simp only [List.length_drop, List.length_take]; rfl)) ?_; (with_reducible refine (spec_ParseNumber.calls kj7 t221 t224 t225 _ A51.out).mono ?_); rintro e w64 ⟨rfl, hb⟩; refine ⟨_, rfl, ?_⟩; have n0_ := Aside0.mk (below_step (by repeat (first | (with_reducible first | exact HB.out | apply below_alloc | apply pw_below_drewN | apply below_drew1) | exact HB.out)) hb); clear HB; have HB := n0_; clear n0_; (try clear hb); (try clear hb2); (try clear hk); (try clear hi)) | (go_at_call 6; (with_reducible refine (impl_FormatInt.calls t222 t226 _ ?side1 A56.out).mono ?_); (case side1 => repeat (first | exact (Laid_below HLD.out HB.out) | (with_reducible refine Laid_alloc ?_ _) | (with_reducible refine Laid_drewN ?_ _) | (with_reducible refine Laid_drew ?_))); rintro e w65 ⟨rfl, hb⟩; have n0_ := Aside0.mk (below_step (by repeat (first | (with_reducible first | exact HB.out | apply below_alloc | apply pw_below_drewN | apply below_drew1) | exact HB.out)) hb); clear HB; have HB := n0_; clear n0_; (try clear hb); (try clear hb2); (try clear hk); (try clear hi)))
                go_ret
                exact ⟨by first | rfl | (simp [errW_none, errW_some] <;> rfl) | (simp [*, errW_none, errW_some] <;> rfl), by repeat (first | (with_reducible first | exact HB.out | apply below_alloc | apply pw_below_drewN | apply below_drew1) | exact HB.out)⟩
            · replace c53 := Bool.eq_false_iff.mpr c53
              subst c53
              (try (have c66q := c52b0; simp at c66q))
              (try (have c67q := c52b2; simp at c67q))
              have H1 : (some true) = some r := by rw [if_neg (show ¬ (false = true) by decide)] at H; exact H
              clear H
              have H := H1
              clear H1
              obtain rfl := Option.some.inj H
              go_wp2_with (first | ((with_reducible refine gate_callee (f := 9) rfl ?_); refine goesL_ (some 52) rfl rfl Tryd.func9 (by kernel_rfl) rfl #[.slice A0 l0.length c0] rfl (by (try simp only [List.map_toArray, List.map_cons, List.map_nil]); first | done | rfl | (simp only [List.length_drop, List.length_take]; rfl)) ?_; (with_reducible refine (spec_DrawParseNumber.calls kj7 _ _ l0 t221 _ ?side1 ?side2 A49.out).mono ?_); (case side1 => repeat (first | exact (Kd.C_below HR0.out HB.out) | (with_reducible refine Kd.C_alloc ?_ _) | (with_reducible refine Kd.C_drewN ?_ _) | (with_reducible refine Kd.C_drew ?_))); (case side2 => exact HC0.out); rintro e w68 ⟨rfl, hb⟩; refine ⟨_, rfl, ?_⟩; have n0_ := Aside0.mk (below_step (by repeat (first | (with_reducible first | exact HB.out | apply below_alloc | apply pw_below_drewN | apply below_drew1) | exact HB.out)) hb); clear HB; have HB := n0_; clear n0_; (try clear hb); (try clear hb2); (try clear hk); (try clear hi)) | ((with_reducible refine gate_callee (f := 10) rfl ?_); refine goesL_ (some 55) rfl rfl Tryd.func10 (by kernel_rfl) rfl #[.string t221] rfl (by (try simp only [List.map_toArray, List.map_cons, List.map_nil]); first | done | rfl | (simp only [List.length_drop, List.length_take]; rfl)) ?_; (with_reducible refine (impl_ParseNumber.calls t221 t222 false _ ?side1 A50.out).mono ?_); (case side1 => repeat (first | exact (Laid_below HLD.out HB.out) | (with_reducible refine Laid_alloc ?_ _) | (with_reducible refine Laid_drewN ?_ _) | (with_reducible refine Laid_drew ?_))); rintro e w69 ⟨rfl, hb⟩; refine ⟨_, rfl, ?_⟩; have n0_ := Aside0.mk (below_step (by repeat (first | (with_reducible first | exact HB.out | apply below_alloc | apply pw_below_drewN | apply below_drew1) | exact HB.out)) hb); clear HB; have HB := n0_; clear n0_; (try clear hb); (try clear hb2); (try clear hk); (try clear hi)) | ((with_reducible refine gate_callee (f := 11) rfl ?_); refine goesL_ (some 60) rfl rfl Tryd.func11 (by kernel_rfl) rfl #[.string t221] rfl (by (try simp only [List.map_toArray, List.map_cons, List.map_nil]); first | done | rfl | (simp only [List.length_drop, List.length_take]; rfl)) ?_; (with_reducible refine (spec_ParseNumber.calls kj7 t221 t224 t225 _ A51.out).mono ?_); rintro e w70 ⟨rfl, hb⟩; refine ⟨_, rfl, ?_⟩; have n0_ := Aside0.mk (below_step (by repeat (first | (with_reducible first | exact HB.out | apply below_alloc | apply pw_below_drewN | apply below_drew1) | exact HB.out)) hb); clear HB; have HB := n0_; clear n0_; (try clear hb); (try clear hb2); (try clear hk); (try clear hi)))
              go_ret
              exact ⟨by first | rfl | (simp [errW_none, errW_some] <;> rfl) | (simp [*, errW_none, errW_some] <;> rfl), by repeat (first | (with_reducible first | exact HB.out | apply below_alloc | apply pw_below_drewN | apply below_drew1) | exact HB.out)⟩
          · rw [if_neg c52] at H
            have c52b0 : (t223 == t225) = false := by simpa using c52
            (try (have c52b1 : decide (t223 = t225) = false := by simpa using c52))
            (try (have c52b2 : (t223 == t225) = false := by simpa using c52))
            (try (have c52b3 : ¬ (t223 = t225) := by simpa using c52))
            clear c52
            obtain rfl := Option.some.inj H
            go_wp2_with (first | ((with_reducible refine gate_callee (f := 9) rfl ?_); refine goesL_ (some 52) rfl rfl Tryd.func9 (by kernel_rfl) rfl #[.slice A0 l0.length c0] rfl (by (try simp only [List.map_toArray, List.map_cons, List.map_nil]); first | done | rfl | (simp only [List.length_drop, List.length_take]; rfl)) ?_; (with_reducible refine (spec_DrawParseNumber.calls kj7 _ _ l0 t221 _ ?side1 ?side2 A49.out).mono ?_); (case side1 => repeat (first | exact (Kd.C_below HR0.out HB.out) | (with_reducible refine Kd.C_alloc ?_ _) | (with_reducible refine Kd.C_drewN ?_ _) | (with_reducible refine Kd.C_drew ?_))); (case side2 => exact HC0.out); rintro e w71 ⟨rfl, hb⟩; refine ⟨_, rfl, ?_⟩; have n0_ := Aside0.mk (below_step (by repeat (first | (with_reducible first | exact HB.out | apply below_alloc | apply pw_below_drewN | apply below_drew1) | exact HB.out)) hb); clear HB; have HB := n0_; clear n0_; (try clear hb); (try clear hb2); (try clear hk); (try clear hi)) | ((with_reducible refine gate_callee (f := 10) rfl ?_); refine goesL_ (some 55) rfl rfl Tryd.func10 (by kernel_rfl) rfl #[.string t221] rfl (by (try simp only [List.map_toArray, List.map_cons, List.map_nil]); first | done | rfl | (simp only [List.length_drop, List.length_take]; rfl)) ?_; (with_reducible refine (impl_ParseNumber.calls t221 t222 t223 _ ?side1 A50.out).mono ?_); (case side1 => repeat (first | exact (Laid_below HLD.out HB.out) | (with_reducible refine Laid_alloc ?_ _) | (with_reducible refine Laid_drewN ?_ _) | (with_reducible refine Laid_drew ?_))); rintro e w72 ⟨rfl, hb⟩; refine ⟨_, rfl, ?_⟩; have n0_ := Aside0.mk (below_step (by repeat (first | (with_reducible first | exact HB.out | apply below_alloc | apply pw_below_drewN | apply below_drew1) | exact HB.out)) hb); clear HB; have HB := n0_; clear n0_; (try clear hb); (try clear hb2); (try clear hk); (try clear hi)) | ((with_reducible refine gate_callee (f := 11) rfl ?_); refine goesL_ (some 60) rfl rfl Tryd.func11 (by kernel_rfl) rfl #[.string t221] rfl (by (try simp only [List.map_toArray, List.map_cons, List.map_nil]); first | done | rfl | (simp only [List.length_drop, List.length_take]; rfl)) ?_; (with_reducible refine (spec_ParseNumber.calls kj7 t221 t224 t225 _ A51.out).mono ?_); rintro e w73 ⟨rfl, hb⟩; refine ⟨_, rfl, ?_⟩; have n0_ := Aside0.mk (below_step (by repeat (first | (with_reducible first | exact HB.out | apply below_alloc | apply pw_below_drewN | apply below_drew1) | exact HB.out)) hb); clear HB; have HB := n0_; clear n0_; (try clear hb); (try clear hb2); (try clear hk); (try clear hi)))
            go_ret
            exact ⟨by first | rfl | (simp [errW_none, errW_some] <;> rfl) | (simp [*, errW_none, errW_some] <;> rfl), by repeat (first | (with_reducible first | exact HB.out | apply below_alloc | apply pw_below_drewN | apply below_drew1) | exact HB.out)⟩

/-- THE ONE PURE STATEMENT of laws_FnNumbers. -/
def laws_FnNumbers.Pure : Prop := ∀ (l0 : List Int), (l0.length ≤ maxLen ∧ ∀ y ∈ l0, (Lit.int .u8 y).wf = true) → ∃ k, laws_FnNumbers.f k l0 = some true

end Go.Proofs.YtpmcedhcdmpmlaaDoor.Pn
