/- Printed by a program of this session: what functions of the translation come to, each contract as it stands. No condition. -/
import Derived.Test.YtpmcedhcdmpmlaaDoorPn0
namespace Go.Proofs.YtpmcedhcdmpmlaaDoor.Pn
open Go.RowKit Go.Proofs.YtpmcedhcdmpmlaaDoor.Ext Go.Proofs.YtpmcedhcdmpmlaaDoorW.PrintWords Go.Proofs.YtpmcedhcdmpmlaaDoorW.PrintLast Go.Proofs.YtpmcedhcdmpmlaaDoorW.PrintMore
attribute [local go_sem] max2_int min2_int max_two min_two max_three min_three max_four min_four   -- for this text's walks alone
set_option linter.unusedVariables false
set_option linter.unusedSimpArgs false

-- NOT PRINTED: function 28 (strconv_numDigits)

-- NOT PRINTED: function 29 (strconv_formatBase10)

-- NOT PRINTED: function 44 (bits_TrailingZeros32)

-- NOT PRINTED: function 45 (bits_TrailingZeros64)

-- NOT PRINTED: function 40 (bits_TrailingZeros)

-- NOT PRINTED: function 30 (strconv_formatBits)

-- NOT PRINTED: function 24 (strconv_FormatInt)

-- NOT PRINTED: function 21 (strconv_Itoa_21)

/-! ### strconv_Itoa_14: function 14 -/
/-- strconv.Itoa, as its laid contract tells it. -/
def strconv_Itoa_14.f (a0 : Int) : Option ByteArray :=
  if -9223372036854775808 ≤ a0 ∧ a0 ≤ 9223372036854775807 then some ⟨(Lib.itoa a0).toArray⟩ else none
theorem strconv_Itoa_14.calls (a0 : Int) (r : ByteArray) (w : World) (hL : Laid w) (h : strconv_Itoa_14.f a0 = some r) :
    Calls Tryd.prog 14 #[.int .i64 a0] w fun e w' => e = .returned (.string r) ∧ Below w.heap.size w w' := by
  unfold strconv_Itoa_14.f at h
  by_cases hc : -9223372036854775808 ≤ a0 ∧ a0 ≤ 9223372036854775807
  · rw [if_pos hc] at h
    obtain rfl := Option.some.inj h
    refine (Tryd.strconv_Itoa a0 hc.1 hc.2 w (Laid_tab hL)).mono ?_
    rintro e w' ⟨he, k, os, rfl⟩
    exact ⟨he, Lib.below_grow _ w (Nat.le_refl _) k os⟩
  · rw [if_neg hc] at h
    cases h

/-! ### impl_FormatInt: function 6 -/
def impl_FormatInt.f (a0 : Int) : Option (ByteArray) := (strconv_Itoa_14.f a0).bind fun t165 => (some t165)
set_option maxHeartbeats 8000000 in
set_option maxRecDepth 100000 in
theorem impl_FormatInt.calls (a0 : Int) (r : ByteArray) (w : World) (hL : Laid w) (h : impl_FormatInt.f a0 = some r) :
    Calls Tryd.prog 6 #[.int .i64 a0] w fun e w' => e = .returned (.string r) ∧ Below w.heap.size w w' := by
  have HLD := Aside0.mk hL
  clear hL
  have HB := Aside0.mk (Below.refl w.heap.size w)
  have H : ((strconv_Itoa_14.f a0).bind fun t165 => (some t165)) = some r := h
  clear h
  replace H := Option.bind_eq_some_iff.mp H
  obtain ⟨t165, A20, H⟩ := H
  replace H : (some t165) = some r := H
  have A2 := Aside0.mk A20
  clear A20
  obtain rfl := Option.some.inj H
  go_enter Tryd.func6, Tryd.ntmps6
  go_wp2_with (first | ((with_reducible refine gate_callee (f := 14) rfl ?_); refine goesL_ (some 4) rfl rfl Tryd.func14 (by kernel_rfl) rfl #[.int .i64 a0] rfl (by (try simp only [List.map_toArray, List.map_cons, List.map_nil]); first | done | rfl | (simp only [List.length_drop, List.length_take]; rfl)) ?_; (with_reducible refine (strconv_Itoa_14.calls a0 t165 _ ?side1 A2.out).mono ?_); (case side1 => repeat (first | exact HLD.out | (with_reducible refine Laid_alloc ?_ _) | (with_reducible refine Laid_drewN ?_ _) | (with_reducible refine Laid_drew ?_))); rintro e w3 ⟨rfl, hb⟩; refine ⟨_, rfl, ?_⟩; have n0_ := Aside0.mk (below_step (by repeat (first | (with_reducible first | exact HB.out | apply below_alloc | apply pw_below_drewN | apply below_drew1) | exact HB.out)) hb); clear HB; have HB := n0_; clear n0_; (try clear hb); (try clear hb2); (try clear hk); (try clear hi)))
  go_ret
  exact ⟨by first | rfl | (simp [errW_none, errW_some] <;> rfl) | (simp [*, errW_none, errW_some] <;> rfl), by repeat (first | (with_reducible first | exact HB.out | apply below_alloc | apply pw_below_drewN | apply below_drew1) | exact HB.out)⟩

end Go.Proofs.YtpmcedhcdmpmlaaDoor.Pn
