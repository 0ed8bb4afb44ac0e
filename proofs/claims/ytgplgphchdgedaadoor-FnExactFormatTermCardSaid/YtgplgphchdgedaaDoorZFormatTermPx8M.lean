/- Printed by a program of this session: what functions of the translation come to, each contract as it stands. No condition. -/
import Derived.Test.YtgplgphchdgedaaDoorZFormatTermSh
import Derived.Test.YtgplgphchdgedaaDoorZFormatTermPx0M
import Derived.Test.YtgplgphchdgedaaDoorZFormatTermPx4M
section
namespace Go.Proofs.YtgplgphchdgedaaDoor.Px
open Go.RowKit Go.Proofs.YtgplgphchdgedaaDoor.Ext Go.Proofs.YtgplgphchdgedaaDoorW.PrintWords Go.Proofs.YtgplgphchdgedaaDoorW.PrintLast Go.Proofs.YtgplgphchdgedaaDoorW.PrintMore
attribute [local go_sem] max2_int min2_int max_two min_two max_three min_three max_four min_four   -- for this text's walks alone
set_option linter.unusedVariables false
set_option linter.unusedSimpArgs false

/-! ### spec_l7Fields: function 38 -/
mutual
def spec_l7Fields.j0 : Nat → Int → ByteArray → Int → Int → List ByteArray → List (S33) → List ByteArray → List (S36) → Option (Bool)
 | 0, _, _, _, _, _, _, _, _ => none
 | k + 1, x149000, x149001, x149002, x149003, x149004, x149005, x149006, x149007 => if x149000 = 7 then (spec_l7Fields.j1 k true x149000 x149001 x149002 x149003 x149004 x149005 x149006 x149007) else (spec_l7Fields.j1 k (x149000 == 13) x149000 x149001 x149002 x149003 x149004 x149005 x149006 x149007)
def spec_l7Fields.j1 : Nat → Bool → Int → ByteArray → Int → Int → List ByteArray → List (S33) → List ByteArray → List (S36) → Option (Bool)
 | 0, _, _, _, _, _, _, _, _, _ => none
 | k + 1, x3, x149000, x149001, x149002, x149003, x149004, x149005, x149006, x149007 => (spec_IsValidType.f k x149003 x149004 x149005).bind fun t152 => (if x3 = true then (if t152 = true then (spec_l7Fields.j2 k false x149000 x149001 x149002 x149003 x149004 x149005 x149006 x149007) else (spec_l7Fields.j2 k true x149000 x149001 x149002 x149003 x149004 x149005 x149006 x149007)) else (if t152 = true then (spec_l7Fields.j2 k true x149000 x149001 x149002 x149003 x149004 x149005 x149006 x149007) else (if x149003 = 0 then (if (x149004.length : Int) > 0 then (spec_l7Fields.j2 k true x149000 x149001 x149002 x149003 x149004 x149005 x149006 x149007) else (spec_l7Fields.j2 k (decide ((x149005.length : Int) > 0)) x149000 x149001 x149002 x149003 x149004 x149005 x149006 x149007)) else (spec_l7Fields.j2 k true x149000 x149001 x149002 x149003 x149004 x149005 x149006 x149007))))
def spec_l7Fields.j2 : Nat → Bool → Int → ByteArray → Int → Int → List ByteArray → List (S33) → List ByteArray → List (S36) → Option (Bool)
 | 0, _, _, _, _, _, _, _, _, _ => none
 | k + 1, x66, x149000, x149001, x149002, x149003, x149004, x149005, x149006, x149007 => if x66 = true then (some false) else (if x149000 = 5 then ((spec_l3Labels.f k x149006).bind fun t153 => (if t153 = true then (spec_l7Fields.j3 k false x149000 x149001 x149002 x149003 x149004 x149005 x149006 x149007) else (spec_l7Fields.j3 k true x149000 x149001 x149002 x149003 x149004 x149005 x149006 x149007))) else (spec_l7Fields.j3 k (decide ((x149006.length : Int) > 0)) x149000 x149001 x149002 x149003 x149004 x149005 x149006 x149007))
def spec_l7Fields.j3 : Nat → Bool → Int → ByteArray → Int → Int → List ByteArray → List (S33) → List ByteArray → List (S36) → Option (Bool)
 | 0, _, _, _, _, _, _, _, _, _ => none
 | k + 1, x86, x149000, x149001, x149002, x149003, x149004, x149005, x149006, x149007 => if x86 = true then (some false) else (if x149000 = 2 then ((spec_l1In.f x149002 0 999).bind fun t154 => (some t154)) else (if x149000 = 3 then ((spec_l1In.f x149002 0 1).bind fun t155 => (some t155)) else ((spec_l1In.f x149002 0 0).bind fun t156 => (some t156))))
end
def spec_l7Fields.f (k : Nat) (a0_0 : Int) (a0_1 : ByteArray) (a0_2 : Int) (a0_3 : Int) (l0_4 : List ByteArray) (l0_5 : List (S33)) (l0_6 : List ByteArray) (l0_7 : List (S36)) : Option (Bool) := if a0_0 = 4 then ((spec_OpArity.f k a0_1).bind fun t149 => (if t149 = 0 then (some false) else (spec_l7Fields.j0 k a0_0 a0_1 a0_2 a0_3 l0_4 l0_5 l0_6 l0_7))) else ((spec_l7Named.f a0_0).bind fun t150 => ((spec_IsName.f k a0_1).bind fun t151 => (if t150 = true then (if t151 = true then (spec_l7Fields.j0 k a0_0 a0_1 a0_2 a0_3 l0_4 l0_5 l0_6 l0_7) else (some false)) else (if t151 = true then (some false) else (if a0_1.toList = ([] : List UInt8) then (spec_l7Fields.j0 k a0_0 a0_1 a0_2 a0_3 l0_4 l0_5 l0_6 l0_7) else (some false))))))
set_option maxHeartbeats 8000000 in
set_option maxRecDepth 100000 in
theorem spec_l7Fields.calls (k : Nat) (a0_0 : Int) (a0_1 : ByteArray) (a0_2 : Int) (a0_3 : Int) (A0_4 : Option Addr) (c0_4 : Nat) (l0_4 : List ByteArray) (A0_5 : Option Addr) (c0_5 : Nat) (l0_5 : List (S33)) (A0_6 : Option Addr) (c0_6 : Nat) (l0_6 : List ByteArray) (A0_7 : Option Addr) (c0_7 : Nat) (l0_7 : List (S36)) (r : Bool) (w : World) (hr0_4 : Kd.C Kd.string w A0_4 l0_4.length l0_4) (hc0_4 : l0_4.length ≤ c0_4) (hr0_5 : Kd.C k33 w A0_5 l0_5.length l0_5) (hc0_5 : l0_5.length ≤ c0_5) (hr0_6 : Kd.C Kd.string w A0_6 l0_6.length l0_6) (hc0_6 : l0_6.length ≤ c0_6) (hr0_7 : Kd.C k36 w A0_7 l0_7.length l0_7) (hc0_7 : l0_7.length ≤ c0_7) (h : spec_l7Fields.f k a0_0 a0_1 a0_2 a0_3 l0_4 l0_5 l0_6 l0_7 = some r) :
  Calls Tryd.prog 38 #[.agg #[.int .i64 a0_0, .string a0_1, .int .i64 a0_2, .int .i64 a0_3, .slice A0_4 l0_4.length c0_4, .slice A0_5 l0_5.length c0_5, .slice A0_6 l0_6.length c0_6, .slice A0_7 l0_7.length c0_7]] w fun e w' => e = .returned (.bool r) ∧ Below w.heap.size w w' := by
 have hu36 := Tryd.underlying36
 have hu33 := Tryd.underlying33
 have HR0_4 := am hr0_4
 have HC0_4 := am hc0_4
 clear hr0_4 hc0_4
 have HR0_5 := am hr0_5
 have HC0_5 := am hc0_5
 clear hr0_5 hc0_5
 have HR0_6 := am hr0_6
 have HC0_6 := am hc0_6
 clear hr0_6 hc0_6
 have HR0_7 := am hr0_7
 have HC0_7 := am hc0_7
 clear hr0_7 hc0_7
 have HB := am (Below.refl w.heap.size w)
 have H : (if a0_0 = 4 then ((spec_OpArity.f k a0_1).bind fun t149 => (if t149 = 0 then (some false) else (spec_l7Fields.j0 k a0_0 a0_1 a0_2 a0_3 l0_4 l0_5 l0_6 l0_7))) else ((spec_l7Named.f a0_0).bind fun t150 => ((spec_IsName.f k a0_1).bind fun t151 => (if t150 = true then (if t151 = true then (spec_l7Fields.j0 k a0_0 a0_1 a0_2 a0_3 l0_4 l0_5 l0_6 l0_7) else (some false)) else (if t151 = true then (some false) else (if a0_1.toList = ([] : List UInt8) then (spec_l7Fields.j0 k a0_0 a0_1 a0_2 a0_3 l0_4 l0_5 l0_6 l0_7) else (some false))))))) = some r := h
 clear h
 have HC2 := am H
 clear H
 go_enter Tryd.func38, Tryd.ntmps38
 go_upto_if 7 with (first | ((with_reducible refine gate_dst (N := 1) rfl ?_); (try (refine gate_guard (by rfl) ?_; dsimp only)); refine box_event ?hg (N := 1) ?hd (cs := #[.int .i64 a0_0, .string a0_1, .int .i64 a0_2, .int .i64 a0_3, .slice A0_4 l0_4.length c0_4, .slice A0_5 l0_5.length c0_5, .slice A0_6 l0_6.length c0_6, .slice A0_7 l0_7.length c0_7]) (t := 36) ?hr ?_; (case hd => rfl); (case hg => rfl); (case hr => exact hrw); intro gb148 hg w3 hbox hb; have n0_ := am (below_step blw hb); have n1_ := am (hbox); have n2_ := am ((by rw [hg]; exact (below_size blw) : w.heap.size ≤ gb148)); have n3_ := n2_; clear HB; revert n0_ n1_ n2_ n3_; intro HB BK148 GW148 GE148; clear hb hbox hg; obtain ⟨hcz4_0, hcz4_1, hcz4_2, hcz4_3, hcz4_4, hcz4_5, hcz4_6, hcz4_7⟩ := cls8 BK148.out; obtain ⟨hfz4_0, hfz4_1, hfz4_2, hfz4_3, hfz4_4, hfz4_5, hfz4_6, hfz4_7⟩ := frz8 BK148.out))
 repeat (go_quiet (first | ((with_reducible refine gate_dst (N := 1) rfl ?_); (try (refine gate_guard (by rfl) ?_; dsimp only)); refine box_event ?hg (N := 1) ?hd (cs := #[.int .i64 a0_0, .string a0_1, .int .i64 a0_2, .int .i64 a0_3, .slice A0_4 l0_4.length c0_4, .slice A0_5 l0_5.length c0_5, .slice A0_6 l0_6.length c0_6, .slice A0_7 l0_7.length c0_7]) (t := 36) ?hr ?_; (case hd => rfl); (case hg => rfl); (case hr => exact hrw); intro gb148 hg w3 hbox hb; have n0_ := am (below_step blw hb); have n1_ := am (hbox); have n2_ := am ((by rw [hg]; exact (below_size blw) : w.heap.size ≤ gb148)); have n3_ := n2_; clear HB; revert n0_ n1_ n2_ n3_; intro HB BK148 GW148 GE148; clear hb hbox hg; obtain ⟨hcz4_0, hcz4_1, hcz4_2, hcz4_3, hcz4_4, hcz4_5, hcz4_6, hcz4_7⟩ := cls8 BK148.out; obtain ⟨hfz4_0, hfz4_1, hfz4_2, hfz4_3, hfz4_4, hfz4_5, hfz4_6, hfz4_7⟩ := frz8 BK148.out)); go_upto_if 7 with (first | ((with_reducible refine gate_dst (N := 1) rfl ?_); (try (refine gate_guard (by rfl) ?_; dsimp only)); refine box_event ?hg (N := 1) ?hd (cs := #[.int .i64 a0_0, .string a0_1, .int .i64 a0_2, .int .i64 a0_3, .slice A0_4 l0_4.length c0_4, .slice A0_5 l0_5.length c0_5, .slice A0_6 l0_6.length c0_6, .slice A0_7 l0_7.length c0_7]) (t := 36) ?hr ?_; (case hd => rfl); (case hg => rfl); (case hr => exact hrw); intro gb148 hg w3 hbox hb; have n0_ := am (below_step blw hb); have n1_ := am (hbox); have n2_ := am ((by rw [hg]; exact (below_size blw) : w.heap.size ≤ gb148)); have n3_ := n2_; clear HB; revert n0_ n1_ n2_ n3_; intro HB BK148 GW148 GE148; clear hb hbox hg; obtain ⟨hcz4_0, hcz4_1, hcz4_2, hcz4_3, hcz4_4, hcz4_5, hcz4_6, hcz4_7⟩ := cls8 BK148.out; obtain ⟨hfz4_0, hfz4_1, hfz4_2, hfz4_3, hfz4_4, hfz4_5, hfz4_6, hfz4_7⟩ := frz8 BK148.out)))
 (try simp only [Act.put, List.setIfInBounds_toArray, List.set_cons_zero, List.set_cons_succ])
 go_cut [] (fun wc => ∃ (kq : Nat), Aside0 (spec_l7Fields.j0 kq a0_0 a0_1 a0_2 a0_3 l0_4 l0_5 l0_6 l0_7 = some r) ∧ Aside0 (kq ≤ k) ∧ Aside0 (wc.heap[gb148]? = some (.cells #[.int .i64 a0_0, .string a0_1, .int .i64 a0_2, .int .i64 a0_3, (.slice A0_4 l0_4.length c0_4), (.slice A0_5 l0_5.length c0_5), (.slice A0_6 l0_6.length c0_6), (.slice A0_7 l0_7.length c0_7)] 36 (0, 0))) ∧ Aside0 (Below w.heap.size w wc))
 case first =>
  have H := HC2.out
  clear HC2
  by_cases c5 : a0_0 = 4
  ·rw [if_pos c5] at H
   have c5b0 : (a0_0 == 4) = true := beq_iff_eq.mpr c5
   have c5b1 : (a0_0 != 4) = false := bne_eq_false_iff_eq.mpr c5
   clear c5
   (first | rw [c5b0] | (simp only [i64_w, i32_w]; rw [c5b0]) | (rw [c5b1]; (try simp only [Bool.not_true, Bool.not_false])) | skip)
   replace H := Option.bind_eq_some_iff.mp H
   obtain ⟨t149, A60, H⟩ := H
   replace H : (if t149 = 0 then (some false) else (spec_l7Fields.j0 k a0_0 a0_1 a0_2 a0_3 l0_4 l0_5 l0_6 l0_7)) = some r := H
   have A6 := am A60
   clear A60
   have HC7 := am H
   clear H
   obtain ⟨hcz8_0, hcz8_1, hcz8_2, hcz8_3, hcz8_4, hcz8_5, hcz8_6, hcz8_7⟩ := cls8 BK148.out
   obtain ⟨hfz8_0, hfz8_1, hfz8_2, hfz8_3, hfz8_4, hfz8_5, hfz8_6, hfz8_7⟩ := frz8 BK148.out
   go_upto_if 11 with (first | (go_at_call 49; (with_reducible refine (spec_OpArity.calls k a0_1 t149 _ A6.out).mono ?_); rintro e w' ⟨rfl, ⟨nd, rfl⟩⟩; (try exact qdw)))
   repeat (go_quiet (first | (go_at_call 49; (with_reducible refine (spec_OpArity.calls k a0_1 t149 _ A6.out).mono ?_); rintro e w' ⟨rfl, ⟨nd, rfl⟩⟩; (try exact qdw))); try go_upto_if 11 with (first | (go_at_call 49; (with_reducible refine (spec_OpArity.calls k a0_1 t149 _ A6.out).mono ?_); rintro e w' ⟨rfl, ⟨nd, rfl⟩⟩; (try exact qdw))))
   have H := HC7.out
   clear HC7
   by_cases c9 : t149 = 0
   ·rw [if_pos c9] at H
    have c9b0 : (t149 == 0) = true := beq_iff_eq.mpr c9
    have c9b1 : (t149 != 0) = false := bne_eq_false_iff_eq.mpr c9
    clear c9
    (first | rw [c9b0] | (simp only [i64_w, i32_w]; rw [c9b0]) | (rw [c9b1]; (try simp only [Bool.not_true, Bool.not_false])) | skip)
    obtain rfl := Option.some.inj H
    go_wp2
    repeat (go_quiet (fail); try go_wp2)
    go_ret
    exact ⟨rfw, blw⟩
   rw [if_neg c9] at H
   have c9b0 : (t149 == 0) = false := beq_eq_false_iff_ne.mpr c9
   have c9b1 : (t149 != 0) = true := bne_iff_ne.mpr c9
   (first | rw [c9b0] | (simp only [i64_w, i32_w]; rw [c9b0]) | (rw [c9b1]; (try simp only [Bool.not_true, Bool.not_false])) | skip)
   have H' := am H
   clear H
   go_wp2
   repeat (go_quiet (fail); try go_wp2)
   go_meet
   case rel => exact ⟨_, H', ⟨by first | omega | exact Nat.le_refl _⟩, ⟨bkw⟩, ⟨blw⟩⟩
  rw [if_neg c5] at H
  have c5b0 : (a0_0 == 4) = false := beq_eq_false_iff_ne.mpr c5
  have c5b1 : (a0_0 != 4) = true := bne_iff_ne.mpr c5
  (first | rw [c5b0] | (simp only [i64_w, i32_w]; rw [c5b0]) | (rw [c5b1]; (try simp only [Bool.not_true, Bool.not_false])) | skip)
  replace H := Option.bind_eq_some_iff.mp H
  obtain ⟨t150, A100, H⟩ := H
  replace H : ((spec_IsName.f k a0_1).bind fun t151 => (if t150 = true then (if t151 = true then (spec_l7Fields.j0 k a0_0 a0_1 a0_2 a0_3 l0_4 l0_5 l0_6 l0_7) else (some false)) else (if t151 = true then (some false) else (if a0_1.toList = ([] : List UInt8) then (spec_l7Fields.j0 k a0_0 a0_1 a0_2 a0_3 l0_4 l0_5 l0_6 l0_7) else (some false))))) = some r := H
  have A10 := am A100
  clear A100
  replace H := Option.bind_eq_some_iff.mp H
  obtain ⟨t151, A110, H⟩ := H
  replace H : (if t150 = true then (if t151 = true then (spec_l7Fields.j0 k a0_0 a0_1 a0_2 a0_3 l0_4 l0_5 l0_6 l0_7) else (some false)) else (if t151 = true then (some false) else (if a0_1.toList = ([] : List UInt8) then (spec_l7Fields.j0 k a0_0 a0_1 a0_2 a0_3 l0_4 l0_5 l0_6 l0_7) else (some false)))) = some r := H
  have A11 := am A110
  clear A110
  by_cases c12 : t150 = true
  ·subst c12
   have H1 : (if t151 = true then (spec_l7Fields.j0 k a0_0 a0_1 a0_2 a0_3 l0_4 l0_5 l0_6 l0_7) else (some false)) = some r := by rw [if_pos rfl] at H; exact H
   clear H
   have H := H1
   clear H1
   by_cases c13 : t151 = true
   case neg =>
    replace c13 := Bool.eq_false_iff.mpr c13
    subst c13
    have H1 : (some false) = some r := by rw [if_neg (show ¬ (false = true) by decide)] at H; exact H
    clear H
    have H := H1
    clear H1
    obtain rfl := Option.some.inj H
    obtain ⟨hcz15_0, hcz15_1, hcz15_2, hcz15_3, hcz15_4, hcz15_5, hcz15_6, hcz15_7⟩ := cls8 BK148.out
    obtain ⟨hfz15_0, hfz15_1, hfz15_2, hfz15_3, hfz15_4, hfz15_5, hfz15_6, hfz15_7⟩ := frz8 BK148.out
    go_wp2_with (first | (go_at_call 50; (with_reducible refine (spec_l7Named.calls a0_0 true _ A10.out).mono ?_); rintro e w' ⟨rfl, ⟨nd, rfl⟩⟩; (try exact qdw)) | (go_at_call 51; (with_reducible refine (spec_IsName.calls k a0_1 false _ A11.out).mono ?_); rintro e w' ⟨rfl, ⟨nd, rfl⟩⟩; (try exact qdw)))
    repeat (go_quiet (first | (go_at_call 50; (with_reducible refine (spec_l7Named.calls a0_0 true _ A10.out).mono ?_); rintro e w' ⟨rfl, ⟨nd, rfl⟩⟩; (try exact qdw)) | (go_at_call 51; (with_reducible refine (spec_IsName.calls k a0_1 false _ A11.out).mono ?_); rintro e w' ⟨rfl, ⟨nd, rfl⟩⟩; (try exact qdw))); try go_wp2_with (first | (go_at_call 50; (with_reducible refine (spec_l7Named.calls a0_0 true _ A10.out).mono ?_); rintro e w' ⟨rfl, ⟨nd, rfl⟩⟩; (try exact qdw)) | (go_at_call 51; (with_reducible refine (spec_IsName.calls k a0_1 false _ A11.out).mono ?_); rintro e w' ⟨rfl, ⟨nd, rfl⟩⟩; (try exact qdw))))
    go_ret
    exact ⟨rfw, blw⟩
   subst c13
   have H1 : (spec_l7Fields.j0 k a0_0 a0_1 a0_2 a0_3 l0_4 l0_5 l0_6 l0_7) = some r := by rw [if_pos rfl] at H; exact H
   clear H
   have H := H1
   clear H1
   have H' := am H
   clear H
   obtain ⟨hcz14_0, hcz14_1, hcz14_2, hcz14_3, hcz14_4, hcz14_5, hcz14_6, hcz14_7⟩ := cls8 BK148.out
   obtain ⟨hfz14_0, hfz14_1, hfz14_2, hfz14_3, hfz14_4, hfz14_5, hfz14_6, hfz14_7⟩ := frz8 BK148.out
   go_wp2_with (first | (go_at_call 50; (with_reducible refine (spec_l7Named.calls a0_0 true _ A10.out).mono ?_); rintro e w' ⟨rfl, ⟨nd, rfl⟩⟩; (try exact qdw)) | (go_at_call 51; (with_reducible refine (spec_IsName.calls k a0_1 true _ A11.out).mono ?_); rintro e w' ⟨rfl, ⟨nd, rfl⟩⟩; (try exact qdw)))
   repeat (go_quiet (first | (go_at_call 50; (with_reducible refine (spec_l7Named.calls a0_0 true _ A10.out).mono ?_); rintro e w' ⟨rfl, ⟨nd, rfl⟩⟩; (try exact qdw)) | (go_at_call 51; (with_reducible refine (spec_IsName.calls k a0_1 true _ A11.out).mono ?_); rintro e w' ⟨rfl, ⟨nd, rfl⟩⟩; (try exact qdw))); try go_wp2_with (first | (go_at_call 50; (with_reducible refine (spec_l7Named.calls a0_0 true _ A10.out).mono ?_); rintro e w' ⟨rfl, ⟨nd, rfl⟩⟩; (try exact qdw)) | (go_at_call 51; (with_reducible refine (spec_IsName.calls k a0_1 true _ A11.out).mono ?_); rintro e w' ⟨rfl, ⟨nd, rfl⟩⟩; (try exact qdw))))
   go_meet
   case rel => exact ⟨_, H', ⟨by first | omega | exact Nat.le_refl _⟩, ⟨bkw⟩, ⟨blw⟩⟩
  replace c12 := Bool.eq_false_iff.mpr c12
  subst c12
  have H1 : (if t151 = true then (some false) else (if a0_1.toList = ([] : List UInt8) then (spec_l7Fields.j0 k a0_0 a0_1 a0_2 a0_3 l0_4 l0_5 l0_6 l0_7) else (some false))) = some r := by rw [if_neg (show ¬ (false = true) by decide)] at H; exact H
  clear H
  have H := H1
  clear H1
  by_cases c16 : t151 = true
  ·subst c16
   have H1 : (some false) = some r := by rw [if_pos rfl] at H; exact H
   clear H
   have H := H1
   clear H1
   obtain rfl := Option.some.inj H
   obtain ⟨hcz17_0, hcz17_1, hcz17_2, hcz17_3, hcz17_4, hcz17_5, hcz17_6, hcz17_7⟩ := cls8 BK148.out
   obtain ⟨hfz17_0, hfz17_1, hfz17_2, hfz17_3, hfz17_4, hfz17_5, hfz17_6, hfz17_7⟩ := frz8 BK148.out
   go_wp2_with (first | (go_at_call 50; (with_reducible refine (spec_l7Named.calls a0_0 false _ A10.out).mono ?_); rintro e w' ⟨rfl, ⟨nd, rfl⟩⟩; (try exact qdw)) | (go_at_call 51; (with_reducible refine (spec_IsName.calls k a0_1 true _ A11.out).mono ?_); rintro e w' ⟨rfl, ⟨nd, rfl⟩⟩; (try exact qdw)))
   repeat (go_quiet (first | (go_at_call 50; (with_reducible refine (spec_l7Named.calls a0_0 false _ A10.out).mono ?_); rintro e w' ⟨rfl, ⟨nd, rfl⟩⟩; (try exact qdw)) | (go_at_call 51; (with_reducible refine (spec_IsName.calls k a0_1 true _ A11.out).mono ?_); rintro e w' ⟨rfl, ⟨nd, rfl⟩⟩; (try exact qdw))); try go_wp2_with (first | (go_at_call 50; (with_reducible refine (spec_l7Named.calls a0_0 false _ A10.out).mono ?_); rintro e w' ⟨rfl, ⟨nd, rfl⟩⟩; (try exact qdw)) | (go_at_call 51; (with_reducible refine (spec_IsName.calls k a0_1 true _ A11.out).mono ?_); rintro e w' ⟨rfl, ⟨nd, rfl⟩⟩; (try exact qdw))))
   go_ret
   exact ⟨rfw, blw⟩
  replace c16 := Bool.eq_false_iff.mpr c16
  subst c16
  have H1 : (if a0_1.toList = ([] : List UInt8) then (spec_l7Fields.j0 k a0_0 a0_1 a0_2 a0_3 l0_4 l0_5 l0_6 l0_7) else (some false)) = some r := by rw [if_neg (show ¬ (false = true) by decide)] at H; exact H
  clear H
  have H := H1
  clear H1
  have HC18 := am H
  clear H
  obtain ⟨hcz19_0, hcz19_1, hcz19_2, hcz19_3, hcz19_4, hcz19_5, hcz19_6, hcz19_7⟩ := cls8 BK148.out
  obtain ⟨hfz19_0, hfz19_1, hfz19_2, hfz19_3, hfz19_4, hfz19_5, hfz19_6, hfz19_7⟩ := frz8 BK148.out
  go_upto_if 29 with (first | (go_at_call 50; (with_reducible refine (spec_l7Named.calls a0_0 false _ A10.out).mono ?_); rintro e w' ⟨rfl, ⟨nd, rfl⟩⟩; (try exact qdw)) | (go_at_call 51; (with_reducible refine (spec_IsName.calls k a0_1 false _ A11.out).mono ?_); rintro e w' ⟨rfl, ⟨nd, rfl⟩⟩; (try exact qdw)))
  repeat (go_quiet (first | (go_at_call 50; (with_reducible refine (spec_l7Named.calls a0_0 false _ A10.out).mono ?_); rintro e w' ⟨rfl, ⟨nd, rfl⟩⟩; (try exact qdw)) | (go_at_call 51; (with_reducible refine (spec_IsName.calls k a0_1 false _ A11.out).mono ?_); rintro e w' ⟨rfl, ⟨nd, rfl⟩⟩; (try exact qdw))); try go_upto_if 29 with (first | (go_at_call 50; (with_reducible refine (spec_l7Named.calls a0_0 false _ A10.out).mono ?_); rintro e w' ⟨rfl, ⟨nd, rfl⟩⟩; (try exact qdw)) | (go_at_call 51; (with_reducible refine (spec_IsName.calls k a0_1 false _ A11.out).mono ?_); rintro e w' ⟨rfl, ⟨nd, rfl⟩⟩; (try exact qdw))))
  have H := HC18.out
  clear HC18
  by_cases c20 : a0_1.toList = ([] : List UInt8)
  case neg =>
   rw [if_neg c20] at H
   have c20b0 : (a0_1.toList == ([] : List UInt8)) = false := beq_eq_false_iff_ne.mpr c20
   have c20e0 : (a0_1.toList).isEmpty = false := by cases h_ : a0_1.toList with | nil => exact absurd h_ c20 | cons _ _ => rfl
   have c20b1 : (a0_1.toList != ([] : List UInt8)) = true := bne_iff_ne.mpr c20
   (first | rw [c20b0] | (simp only [i64_w, i32_w]; rw [c20b0]) | (rw [c20b1]; (try simp only [Bool.not_true, Bool.not_false])) | (rw [c20e0]; (try simp only [Bool.not_true, Bool.not_false])) | skip)
   obtain rfl := Option.some.inj H
   go_wp2
   repeat (go_quiet (fail); try go_wp2)
   go_ret
   exact ⟨rfw, blw⟩
  rw [if_pos c20] at H
  have c20b0 : (a0_1.toList == ([] : List UInt8)) = true := beq_iff_eq.mpr c20
  have c20e0 : (a0_1.toList).isEmpty = true := by rw [c20]; rfl
  have c20b1 : (a0_1.toList != ([] : List UInt8)) = false := bne_eq_false_iff_eq.mpr c20
  clear c20
  (first | rw [c20b0] | (simp only [i64_w, i32_w]; rw [c20b0]) | (rw [c20b1]; (try simp only [Bool.not_true, Bool.not_false])) | (rw [c20e0]; (try simp only [Bool.not_true, Bool.not_false])) | skip)
  have H' := am H
  clear H
  go_wp2
  repeat (go_quiet (fail); try go_wp2)
  go_meet
  case rel => exact ⟨_, H', ⟨by first | omega | exact Nat.le_refl _⟩, ⟨bkw⟩, ⟨blw⟩⟩
 case rest =>
  clear HC2
  (try clear c1); (try clear c2); (try clear p2); (try clear c3); (try clear c5); (try clear c5b0); (try clear c5b1); (try clear c9); (try clear c9b0); (try clear c9b1); (try clear c12); (try clear c13); (try clear c16); (try clear c20); (try clear c20b0); (try clear c20b1); (try clear hcz14_0 hcz14_1 hcz14_2 hcz14_3 hcz14_4 hcz14_5 hcz14_6 hcz14_7); (try clear hcz15_0 hcz15_1 hcz15_2 hcz15_3 hcz15_4 hcz15_5 hcz15_6 hcz15_7); (try clear hcz17_0 hcz17_1 hcz17_2 hcz17_3 hcz17_4 hcz17_5 hcz17_6 hcz17_7); (try clear hcz19_0 hcz19_1 hcz19_2 hcz19_3 hcz19_4 hcz19_5 hcz19_6 hcz19_7); (try clear hcz4_0 hcz4_1 hcz4_2 hcz4_3 hcz4_4 hcz4_5 hcz4_6 hcz4_7); (try clear hcz8_0 hcz8_1 hcz8_2 hcz8_3 hcz8_4 hcz8_5 hcz8_6 hcz8_7); (try clear hfz14_0 hfz14_1 hfz14_2 hfz14_3 hfz14_4 hfz14_5 hfz14_6 hfz14_7); (try clear hfz15_0 hfz15_1 hfz15_2 hfz15_3 hfz15_4 hfz15_5 hfz15_6 hfz15_7); (try clear hfz17_0 hfz17_1 hfz17_2 hfz17_3 hfz17_4 hfz17_5 hfz17_6 hfz17_7); (try clear hfz19_0 hfz19_1 hfz19_2 hfz19_3 hfz19_4 hfz19_5 hfz19_6 hfz19_7); (try clear hfz4_0 hfz4_1 hfz4_2 hfz4_3 hfz4_4 hfz4_5 hfz4_6 hfz4_7); (try clear hfz8_0 hfz8_1 hfz8_2 hfz8_3 hfz8_4 hfz8_5 hfz8_6 hfz8_7)
  obtain ⟨kq, HA, HJ1, BK148, HB⟩ := hcut
  cases kq with
  | zero => exact absurd HA.out (by simp [spec_l7Fields.j0])
  | succ kj1 =>
   have H := HA.out
   clear HA
   simp only [spec_l7Fields.j0] at H
   have HC21 := am H
   clear H
   go_upto_region 6 with (fail)
   repeat (go_quiet (fail); go_upto_region 6 with (fail))
   go_cut [3] (fun v3 wc => ∃ (kq : Nat) (x3_20 : Bool), v3 = .bool x3_20 ∧ Aside0 (spec_l7Fields.j1 kq x3_20 a0_0 a0_1 a0_2 a0_3 l0_4 l0_5 l0_6 l0_7 = some r) ∧ Aside0 (kq ≤ kj1) ∧ Aside0 (wc.heap[gb148]? = some (.cells #[.int .i64 a0_0, .string a0_1, .int .i64 a0_2, .int .i64 a0_3, (.slice A0_4 l0_4.length c0_4), (.slice A0_5 l0_5.length c0_5), (.slice A0_6 l0_6.length c0_6), (.slice A0_7 l0_7.length c0_7)] 36 (0, 0))) ∧ Aside0 (Below w.heap.size w wc))
   case first =>
    have H := HC21.out
    clear HC21
    by_cases c22 : a0_0 = 7
    case neg =>
     rw [if_neg c22] at H
     have c22b0 : (a0_0 == 7) = false := beq_eq_false_iff_ne.mpr c22
     have c22b1 : (a0_0 != 7) = true := bne_iff_ne.mpr c22
     (first | rw [c22b0] | (simp only [i64_w, i32_w]; rw [c22b0]) | (rw [c22b1]; (try simp only [Bool.not_true, Bool.not_false])) | skip)
     have H' := am H
     clear H
     obtain ⟨hcz24_0, hcz24_1, hcz24_2, hcz24_3, hcz24_4, hcz24_5, hcz24_6, hcz24_7⟩ := cls8 BK148.out
     obtain ⟨hfz24_0, hfz24_1, hfz24_2, hfz24_3, hfz24_4, hfz24_5, hfz24_6, hfz24_7⟩ := frz8 BK148.out
     go_wp2
     repeat (go_quiet (fail); try go_wp2)
     go_meet
     case rel => exact ⟨_, ((a0_0 == 13)), rfs, H', ⟨by have := HJ1.out; first | omega | exact Nat.le_refl _⟩, ⟨bkw⟩, ⟨blw⟩⟩
    rw [if_pos c22] at H
    have c22b0 : (a0_0 == 7) = true := beq_iff_eq.mpr c22
    have c22b1 : (a0_0 != 7) = false := bne_eq_false_iff_eq.mpr c22
    clear c22
    (first | rw [c22b0] | (simp only [i64_w, i32_w]; rw [c22b0]) | (rw [c22b1]; (try simp only [Bool.not_true, Bool.not_false])) | skip)
    have H' := am H
    clear H
    obtain ⟨hcz23_0, hcz23_1, hcz23_2, hcz23_3, hcz23_4, hcz23_5, hcz23_6, hcz23_7⟩ := cls8 BK148.out
    obtain ⟨hfz23_0, hfz23_1, hfz23_2, hfz23_3, hfz23_4, hfz23_5, hfz23_6, hfz23_7⟩ := frz8 BK148.out
    go_wp2
    repeat (go_quiet (fail); try go_wp2)
    go_meet
    case rel => exact ⟨_, (true), rfs, H', ⟨by have := HJ1.out; first | omega | exact Nat.le_refl _⟩, ⟨bkw⟩, ⟨blw⟩⟩
   case rest =>
    clear HC21
    (try clear c1); (try clear c2); (try clear p2 p2); (try clear c3); (try clear c5); (try clear c5b0); (try clear c5b1); (try clear c9); (try clear c9b0); (try clear c9b1); (try clear c12); (try clear c13); (try clear c16); (try clear c20); (try clear c20b0); (try clear c20b1); (try clear c22); (try clear c22b0); (try clear c22b1); (try clear hcz14_0 hcz14_1 hcz14_2 hcz14_3 hcz14_4 hcz14_5 hcz14_6 hcz14_7); (try clear hcz15_0 hcz15_1 hcz15_2 hcz15_3 hcz15_4 hcz15_5 hcz15_6 hcz15_7); (try clear hcz17_0 hcz17_1 hcz17_2 hcz17_3 hcz17_4 hcz17_5 hcz17_6 hcz17_7); (try clear hcz19_0 hcz19_1 hcz19_2 hcz19_3 hcz19_4 hcz19_5 hcz19_6 hcz19_7); (try clear hcz23_0 hcz23_1 hcz23_2 hcz23_3 hcz23_4 hcz23_5 hcz23_6 hcz23_7); (try clear hcz24_0 hcz24_1 hcz24_2 hcz24_3 hcz24_4 hcz24_5 hcz24_6 hcz24_7); (try clear hcz4_0 hcz4_1 hcz4_2 hcz4_3 hcz4_4 hcz4_5 hcz4_6 hcz4_7); (try clear hcz8_0 hcz8_1 hcz8_2 hcz8_3 hcz8_4 hcz8_5 hcz8_6 hcz8_7); (try clear hfz14_0 hfz14_1 hfz14_2 hfz14_3 hfz14_4 hfz14_5 hfz14_6 hfz14_7); (try clear hfz15_0 hfz15_1 hfz15_2 hfz15_3 hfz15_4 hfz15_5 hfz15_6 hfz15_7); (try clear hfz17_0 hfz17_1 hfz17_2 hfz17_3 hfz17_4 hfz17_5 hfz17_6 hfz17_7); (try clear hfz19_0 hfz19_1 hfz19_2 hfz19_3 hfz19_4 hfz19_5 hfz19_6 hfz19_7); (try clear hfz23_0 hfz23_1 hfz23_2 hfz23_3 hfz23_4 hfz23_5 hfz23_6 hfz23_7); (try clear hfz24_0 hfz24_1 hfz24_2 hfz24_3 hfz24_4 hfz24_5 hfz24_6 hfz24_7); (try clear hfz4_0 hfz4_1 hfz4_2 hfz4_3 hfz4_4 hfz4_5 hfz4_6 hfz4_7); (try clear hfz8_0 hfz8_1 hfz8_2 hfz8_3 hfz8_4 hfz8_5 hfz8_6 hfz8_7)
    obtain ⟨kq, x3_20, rfl, HA, HJ20, BK148, HB⟩ := hcut
    cases kq with
    | zero => exact absurd HA.out (by simp [spec_l7Fields.j1])
    | succ kj20 =>
     have H := HA.out
     clear HA
     simp only [spec_l7Fields.j1] at H
     have HC25 := am H
     clear H
     go_upto_region 7 with (fail)
     repeat (go_quiet (fail); go_upto_region 7 with (fail))
     go_cut [66] (fun v66 wc => ∃ (kq : Nat) (x66_24 : Bool), v66 = .bool x66_24 ∧ Aside0 (spec_l7Fields.j2 kq x66_24 a0_0 a0_1 a0_2 a0_3 l0_4 l0_5 l0_6 l0_7 = some r) ∧ Aside0 (kq ≤ kj20) ∧ Aside0 (wc.heap[gb148]? = some (.cells #[.int .i64 a0_0, .string a0_1, .int .i64 a0_2, .int .i64 a0_3, (.slice A0_4 l0_4.length c0_4), (.slice A0_5 l0_5.length c0_5), (.slice A0_6 l0_6.length c0_6), (.slice A0_7 l0_7.length c0_7)] 36 (0, 0))) ∧ Aside0 (Below w.heap.size w wc))
     case first =>
      have H := HC25.out
      clear HC25
      replace H := Option.bind_eq_some_iff.mp H
      obtain ⟨t152, A260, H⟩ := H
      replace H : (if x3_20 = true then (if t152 = true then (spec_l7Fields.j2 kj20 false a0_0 a0_1 a0_2 a0_3 l0_4 l0_5 l0_6 l0_7) else (spec_l7Fields.j2 kj20 true a0_0 a0_1 a0_2 a0_3 l0_4 l0_5 l0_6 l0_7)) else (if t152 = true then (spec_l7Fields.j2 kj20 true a0_0 a0_1 a0_2 a0_3 l0_4 l0_5 l0_6 l0_7) else (if a0_3 = 0 then (if (l0_4.length : Int) > 0 then (spec_l7Fields.j2 kj20 true a0_0 a0_1 a0_2 a0_3 l0_4 l0_5 l0_6 l0_7) else (spec_l7Fields.j2 kj20 (decide ((l0_5.length : Int) > 0)) a0_0 a0_1 a0_2 a0_3 l0_4 l0_5 l0_6 l0_7)) else (spec_l7Fields.j2 kj20 true a0_0 a0_1 a0_2 a0_3 l0_4 l0_5 l0_6 l0_7)))) = some r := H
      have A26 := am A260
      clear A260
      by_cases c27 : x3_20 = true
      ·subst c27
       have H1 : (if t152 = true then (spec_l7Fields.j2 kj20 false a0_0 a0_1 a0_2 a0_3 l0_4 l0_5 l0_6 l0_7) else (spec_l7Fields.j2 kj20 true a0_0 a0_1 a0_2 a0_3 l0_4 l0_5 l0_6 l0_7)) = some r := by rw [if_pos rfl] at H; exact H
       clear H
       have H := H1
       clear H1
       by_cases c28 : t152 = true
       ·subst c28
        have H1 : (spec_l7Fields.j2 kj20 false a0_0 a0_1 a0_2 a0_3 l0_4 l0_5 l0_6 l0_7) = some r := by rw [if_pos rfl] at H; exact H
        clear H
        have H := H1
        clear H1
        have H' := am H
        clear H
        obtain ⟨hcz29_0, hcz29_1, hcz29_2, hcz29_3, hcz29_4, hcz29_5, hcz29_6, hcz29_7⟩ := cls8 BK148.out
        obtain ⟨hfz29_0, hfz29_1, hfz29_2, hfz29_3, hfz29_4, hfz29_5, hfz29_6, hfz29_7⟩ := frz8 BK148.out
        go_wp2_with (first | (go_at_call 52; (with_reducible refine (spec_IsValidType.calls kj20 a0_3 _ _ l0_4 _ _ l0_5 true _ ?side1 ?side2 ?side3 ?side4 A26.out).mono ?_); (case side1 => have X_ := HR0_4; exact cbl); (case side2 => exact HC0_4.out); (case side3 => have X_ := HR0_5; exact cbl); (case side4 => exact HC0_5.out); rintro e w30 ⟨rfl, hb⟩; have n0_ := am (blk_below (g := gb148) bkw hb); have n1_ := am (below_step blw hb); clear BK148; clear HB; revert n0_ n1_; intro BK148 HB; (try clear hb); (try clear hb2); (try clear hk); (try clear hi)))
        repeat (go_quiet (first | (go_at_call 52; (with_reducible refine (spec_IsValidType.calls kj20 a0_3 _ _ l0_4 _ _ l0_5 true _ ?side1 ?side2 ?side3 ?side4 A26.out).mono ?_); (case side1 => have X_ := HR0_4; exact cbl); (case side2 => exact HC0_4.out); (case side3 => have X_ := HR0_5; exact cbl); (case side4 => exact HC0_5.out); rintro e w30 ⟨rfl, hb⟩; have n0_ := am (blk_below (g := gb148) bkw hb); have n1_ := am (below_step blw hb); clear BK148; clear HB; revert n0_ n1_; intro BK148 HB; (try clear hb); (try clear hb2); (try clear hk); (try clear hi))); try go_wp2_with (first | (go_at_call 52; (with_reducible refine (spec_IsValidType.calls kj20 a0_3 _ _ l0_4 _ _ l0_5 true _ ?side1 ?side2 ?side3 ?side4 A26.out).mono ?_); (case side1 => have X_ := HR0_4; exact cbl); (case side2 => exact HC0_4.out); (case side3 => have X_ := HR0_5; exact cbl); (case side4 => exact HC0_5.out); rintro e w30 ⟨rfl, hb⟩; have n0_ := am (blk_below (g := gb148) bkw hb); have n1_ := am (below_step blw hb); clear BK148; clear HB; revert n0_ n1_; intro BK148 HB; (try clear hb); (try clear hb2); (try clear hk); (try clear hi))))
        go_meet
        case rel => exact ⟨_, (false), rfs, H', ⟨by have := HJ1.out; have := HJ20.out; first | omega | exact Nat.le_refl _⟩, ⟨bkw⟩, ⟨blw⟩⟩
       replace c28 := Bool.eq_false_iff.mpr c28
       subst c28
       have H1 : (spec_l7Fields.j2 kj20 true a0_0 a0_1 a0_2 a0_3 l0_4 l0_5 l0_6 l0_7) = some r := by rw [if_neg (show ¬ (false = true) by decide)] at H; exact H
       clear H
       have H := H1
       clear H1
       have H' := am H
       clear H
       obtain ⟨hcz31_0, hcz31_1, hcz31_2, hcz31_3, hcz31_4, hcz31_5, hcz31_6, hcz31_7⟩ := cls8 BK148.out
       obtain ⟨hfz31_0, hfz31_1, hfz31_2, hfz31_3, hfz31_4, hfz31_5, hfz31_6, hfz31_7⟩ := frz8 BK148.out
       go_wp2_with (first | (go_at_call 52; (with_reducible refine (spec_IsValidType.calls kj20 a0_3 _ _ l0_4 _ _ l0_5 false _ ?side1 ?side2 ?side3 ?side4 A26.out).mono ?_); (case side1 => have X_ := HR0_4; exact cbl); (case side2 => exact HC0_4.out); (case side3 => have X_ := HR0_5; exact cbl); (case side4 => exact HC0_5.out); rintro e w32 ⟨rfl, hb⟩; have n0_ := am (blk_below (g := gb148) bkw hb); have n1_ := am (below_step blw hb); clear BK148; clear HB; revert n0_ n1_; intro BK148 HB; (try clear hb); (try clear hb2); (try clear hk); (try clear hi)))
       repeat (go_quiet (first | (go_at_call 52; (with_reducible refine (spec_IsValidType.calls kj20 a0_3 _ _ l0_4 _ _ l0_5 false _ ?side1 ?side2 ?side3 ?side4 A26.out).mono ?_); (case side1 => have X_ := HR0_4; exact cbl); (case side2 => exact HC0_4.out); (case side3 => have X_ := HR0_5; exact cbl); (case side4 => exact HC0_5.out); rintro e w32 ⟨rfl, hb⟩; have n0_ := am (blk_below (g := gb148) bkw hb); have n1_ := am (below_step blw hb); clear BK148; clear HB; revert n0_ n1_; intro BK148 HB; (try clear hb); (try clear hb2); (try clear hk); (try clear hi))); try go_wp2_with (first | (go_at_call 52; (with_reducible refine (spec_IsValidType.calls kj20 a0_3 _ _ l0_4 _ _ l0_5 false _ ?side1 ?side2 ?side3 ?side4 A26.out).mono ?_); (case side1 => have X_ := HR0_4; exact cbl); (case side2 => exact HC0_4.out); (case side3 => have X_ := HR0_5; exact cbl); (case side4 => exact HC0_5.out); rintro e w32 ⟨rfl, hb⟩; have n0_ := am (blk_below (g := gb148) bkw hb); have n1_ := am (below_step blw hb); clear BK148; clear HB; revert n0_ n1_; intro BK148 HB; (try clear hb); (try clear hb2); (try clear hk); (try clear hi))))
       go_meet
       case rel => exact ⟨_, (true), rfs, H', ⟨by have := HJ1.out; have := HJ20.out; first | omega | exact Nat.le_refl _⟩, ⟨bkw⟩, ⟨blw⟩⟩
      replace c27 := Bool.eq_false_iff.mpr c27
      subst c27
      have H1 : (if t152 = true then (spec_l7Fields.j2 kj20 true a0_0 a0_1 a0_2 a0_3 l0_4 l0_5 l0_6 l0_7) else (if a0_3 = 0 then (if (l0_4.length : Int) > 0 then (spec_l7Fields.j2 kj20 true a0_0 a0_1 a0_2 a0_3 l0_4 l0_5 l0_6 l0_7) else (spec_l7Fields.j2 kj20 (decide ((l0_5.length : Int) > 0)) a0_0 a0_1 a0_2 a0_3 l0_4 l0_5 l0_6 l0_7)) else (spec_l7Fields.j2 kj20 true a0_0 a0_1 a0_2 a0_3 l0_4 l0_5 l0_6 l0_7))) = some r := by rw [if_neg (show ¬ (false = true) by decide)] at H; exact H
      clear H
      have H := H1
      clear H1
      by_cases c33 : t152 = true
      ·subst c33
       have H1 : (spec_l7Fields.j2 kj20 true a0_0 a0_1 a0_2 a0_3 l0_4 l0_5 l0_6 l0_7) = some r := by rw [if_pos rfl] at H; exact H
       clear H
       have H := H1
       clear H1
       have H' := am H
       clear H
       obtain ⟨hcz34_0, hcz34_1, hcz34_2, hcz34_3, hcz34_4, hcz34_5, hcz34_6, hcz34_7⟩ := cls8 BK148.out
       obtain ⟨hfz34_0, hfz34_1, hfz34_2, hfz34_3, hfz34_4, hfz34_5, hfz34_6, hfz34_7⟩ := frz8 BK148.out
       go_wp2_with (first | (go_at_call 52; (with_reducible refine (spec_IsValidType.calls kj20 a0_3 _ _ l0_4 _ _ l0_5 true _ ?side1 ?side2 ?side3 ?side4 A26.out).mono ?_); (case side1 => have X_ := HR0_4; exact cbl); (case side2 => exact HC0_4.out); (case side3 => have X_ := HR0_5; exact cbl); (case side4 => exact HC0_5.out); rintro e w35 ⟨rfl, hb⟩; have n0_ := am (blk_below (g := gb148) bkw hb); have n1_ := am (below_step blw hb); clear BK148; clear HB; revert n0_ n1_; intro BK148 HB; (try clear hb); (try clear hb2); (try clear hk); (try clear hi)))
       repeat (go_quiet (first | (go_at_call 52; (with_reducible refine (spec_IsValidType.calls kj20 a0_3 _ _ l0_4 _ _ l0_5 true _ ?side1 ?side2 ?side3 ?side4 A26.out).mono ?_); (case side1 => have X_ := HR0_4; exact cbl); (case side2 => exact HC0_4.out); (case side3 => have X_ := HR0_5; exact cbl); (case side4 => exact HC0_5.out); rintro e w35 ⟨rfl, hb⟩; have n0_ := am (blk_below (g := gb148) bkw hb); have n1_ := am (below_step blw hb); clear BK148; clear HB; revert n0_ n1_; intro BK148 HB; (try clear hb); (try clear hb2); (try clear hk); (try clear hi))); try go_wp2_with (first | (go_at_call 52; (with_reducible refine (spec_IsValidType.calls kj20 a0_3 _ _ l0_4 _ _ l0_5 true _ ?side1 ?side2 ?side3 ?side4 A26.out).mono ?_); (case side1 => have X_ := HR0_4; exact cbl); (case side2 => exact HC0_4.out); (case side3 => have X_ := HR0_5; exact cbl); (case side4 => exact HC0_5.out); rintro e w35 ⟨rfl, hb⟩; have n0_ := am (blk_below (g := gb148) bkw hb); have n1_ := am (below_step blw hb); clear BK148; clear HB; revert n0_ n1_; intro BK148 HB; (try clear hb); (try clear hb2); (try clear hk); (try clear hi))))
       go_meet
       case rel => exact ⟨_, (true), rfs, H', ⟨by have := HJ1.out; have := HJ20.out; first | omega | exact Nat.le_refl _⟩, ⟨bkw⟩, ⟨blw⟩⟩
      replace c33 := Bool.eq_false_iff.mpr c33
      subst c33
      have H1 : (if a0_3 = 0 then (if (l0_4.length : Int) > 0 then (spec_l7Fields.j2 kj20 true a0_0 a0_1 a0_2 a0_3 l0_4 l0_5 l0_6 l0_7) else (spec_l7Fields.j2 kj20 (decide ((l0_5.length : Int) > 0)) a0_0 a0_1 a0_2 a0_3 l0_4 l0_5 l0_6 l0_7)) else (spec_l7Fields.j2 kj20 true a0_0 a0_1 a0_2 a0_3 l0_4 l0_5 l0_6 l0_7)) = some r := by rw [if_neg (show ¬ (false = true) by decide)] at H; exact H
      clear H
      have H := H1
      clear H1
      by_cases c36 : a0_3 = 0
      case neg =>
       rw [if_neg c36] at H
       have c36b0 : (a0_3 == 0) = false := beq_eq_false_iff_ne.mpr c36
       have c36b1 : (a0_3 != 0) = true := bne_iff_ne.mpr c36
       (first | rw [c36b0] | (simp only [i64_w, i32_w]; rw [c36b0]) | (rw [c36b1]; (try simp only [Bool.not_true, Bool.not_false])) | skip)
       have H' := am H
       clear H
       obtain ⟨hcz44_0, hcz44_1, hcz44_2, hcz44_3, hcz44_4, hcz44_5, hcz44_6, hcz44_7⟩ := cls8 BK148.out
       obtain ⟨hfz44_0, hfz44_1, hfz44_2, hfz44_3, hfz44_4, hfz44_5, hfz44_6, hfz44_7⟩ := frz8 BK148.out
       go_wp2_with (first | (go_at_call 52; (with_reducible refine (spec_IsValidType.calls kj20 a0_3 _ _ l0_4 _ _ l0_5 false _ ?side1 ?side2 ?side3 ?side4 A26.out).mono ?_); (case side1 => have X_ := HR0_4; exact cbl); (case side2 => exact HC0_4.out); (case side3 => have X_ := HR0_5; exact cbl); (case side4 => exact HC0_5.out); rintro e w45 ⟨rfl, hb⟩; have n0_ := am (blk_below (g := gb148) bkw hb); have n1_ := am (below_step blw hb); clear BK148; clear HB; revert n0_ n1_; intro BK148 HB; (try clear hb); (try clear hb2); (try clear hk); (try clear hi); obtain ⟨hcz46_0, hcz46_1, hcz46_2, hcz46_3, hcz46_4, hcz46_5, hcz46_6, hcz46_7⟩ := cls8 BK148.out; obtain ⟨hfz46_0, hfz46_1, hfz46_2, hfz46_3, hfz46_4, hfz46_5, hfz46_6, hfz46_7⟩ := frz8 BK148.out))
       repeat (go_quiet (first | (go_at_call 52; (with_reducible refine (spec_IsValidType.calls kj20 a0_3 _ _ l0_4 _ _ l0_5 false _ ?side1 ?side2 ?side3 ?side4 A26.out).mono ?_); (case side1 => have X_ := HR0_4; exact cbl); (case side2 => exact HC0_4.out); (case side3 => have X_ := HR0_5; exact cbl); (case side4 => exact HC0_5.out); rintro e w45 ⟨rfl, hb⟩; have n0_ := am (blk_below (g := gb148) bkw hb); have n1_ := am (below_step blw hb); clear BK148; clear HB; revert n0_ n1_; intro BK148 HB; (try clear hb); (try clear hb2); (try clear hk); (try clear hi); obtain ⟨hcz46_0, hcz46_1, hcz46_2, hcz46_3, hcz46_4, hcz46_5, hcz46_6, hcz46_7⟩ := cls8 BK148.out; obtain ⟨hfz46_0, hfz46_1, hfz46_2, hfz46_3, hfz46_4, hfz46_5, hfz46_6, hfz46_7⟩ := frz8 BK148.out)); try go_wp2_with (first | (go_at_call 52; (with_reducible refine (spec_IsValidType.calls kj20 a0_3 _ _ l0_4 _ _ l0_5 false _ ?side1 ?side2 ?side3 ?side4 A26.out).mono ?_); (case side1 => have X_ := HR0_4; exact cbl); (case side2 => exact HC0_4.out); (case side3 => have X_ := HR0_5; exact cbl); (case side4 => exact HC0_5.out); rintro e w45 ⟨rfl, hb⟩; have n0_ := am (blk_below (g := gb148) bkw hb); have n1_ := am (below_step blw hb); clear BK148; clear HB; revert n0_ n1_; intro BK148 HB; (try clear hb); (try clear hb2); (try clear hk); (try clear hi); obtain ⟨hcz46_0, hcz46_1, hcz46_2, hcz46_3, hcz46_4, hcz46_5, hcz46_6, hcz46_7⟩ := cls8 BK148.out; obtain ⟨hfz46_0, hfz46_1, hfz46_2, hfz46_3, hfz46_4, hfz46_5, hfz46_6, hfz46_7⟩ := frz8 BK148.out)))
       go_meet
       case rel => exact ⟨_, (true), rfs, H', ⟨by have := HJ1.out; have := HJ20.out; first | omega | exact Nat.le_refl _⟩, ⟨bkw⟩, ⟨blw⟩⟩
      rw [if_pos c36] at H
      have c36b0 : (a0_3 == 0) = true := beq_iff_eq.mpr c36
      have c36b1 : (a0_3 != 0) = false := bne_eq_false_iff_eq.mpr c36
      clear c36
      (first | rw [c36b0] | (simp only [i64_w, i32_w]; rw [c36b0]) | (rw [c36b1]; (try simp only [Bool.not_true, Bool.not_false])) | skip)
      by_cases c37 : (l0_4.length : Int) > 0
      ·rw [if_pos c37] at H
       have c37b0 : decide (0 < (l0_4.length : Int)) = true := decide_eq_true c37
       have c37b1 : decide (0 < l0_4.length) = true := decide_eq_true (by omega)
       clear c37
       have H' := am H
       clear H
       obtain ⟨hcz38_0, hcz38_1, hcz38_2, hcz38_3, hcz38_4, hcz38_5, hcz38_6, hcz38_7⟩ := cls8 BK148.out
       obtain ⟨hfz38_0, hfz38_1, hfz38_2, hfz38_3, hfz38_4, hfz38_5, hfz38_6, hfz38_7⟩ := frz8 BK148.out
       go_wp2_with (first | (go_at_call 52; (with_reducible refine (spec_IsValidType.calls kj20 a0_3 _ _ l0_4 _ _ l0_5 false _ ?side1 ?side2 ?side3 ?side4 A26.out).mono ?_); (case side1 => have X_ := HR0_4; exact cbl); (case side2 => exact HC0_4.out); (case side3 => have X_ := HR0_5; exact cbl); (case side4 => exact HC0_5.out); rintro e w39 ⟨rfl, hb⟩; have n0_ := am (blk_below (g := gb148) bkw hb); have n1_ := am (below_step blw hb); clear BK148; clear HB; revert n0_ n1_; intro BK148 HB; (try clear hb); (try clear hb2); (try clear hk); (try clear hi); obtain ⟨hcz40_0, hcz40_1, hcz40_2, hcz40_3, hcz40_4, hcz40_5, hcz40_6, hcz40_7⟩ := cls8 BK148.out; obtain ⟨hfz40_0, hfz40_1, hfz40_2, hfz40_3, hfz40_4, hfz40_5, hfz40_6, hfz40_7⟩ := frz8 BK148.out))
       repeat (go_quiet (first | (go_at_call 52; (with_reducible refine (spec_IsValidType.calls kj20 a0_3 _ _ l0_4 _ _ l0_5 false _ ?side1 ?side2 ?side3 ?side4 A26.out).mono ?_); (case side1 => have X_ := HR0_4; exact cbl); (case side2 => exact HC0_4.out); (case side3 => have X_ := HR0_5; exact cbl); (case side4 => exact HC0_5.out); rintro e w39 ⟨rfl, hb⟩; have n0_ := am (blk_below (g := gb148) bkw hb); have n1_ := am (below_step blw hb); clear BK148; clear HB; revert n0_ n1_; intro BK148 HB; (try clear hb); (try clear hb2); (try clear hk); (try clear hi); obtain ⟨hcz40_0, hcz40_1, hcz40_2, hcz40_3, hcz40_4, hcz40_5, hcz40_6, hcz40_7⟩ := cls8 BK148.out; obtain ⟨hfz40_0, hfz40_1, hfz40_2, hfz40_3, hfz40_4, hfz40_5, hfz40_6, hfz40_7⟩ := frz8 BK148.out)); try go_wp2_with (first | (go_at_call 52; (with_reducible refine (spec_IsValidType.calls kj20 a0_3 _ _ l0_4 _ _ l0_5 false _ ?side1 ?side2 ?side3 ?side4 A26.out).mono ?_); (case side1 => have X_ := HR0_4; exact cbl); (case side2 => exact HC0_4.out); (case side3 => have X_ := HR0_5; exact cbl); (case side4 => exact HC0_5.out); rintro e w39 ⟨rfl, hb⟩; have n0_ := am (blk_below (g := gb148) bkw hb); have n1_ := am (below_step blw hb); clear BK148; clear HB; revert n0_ n1_; intro BK148 HB; (try clear hb); (try clear hb2); (try clear hk); (try clear hi); obtain ⟨hcz40_0, hcz40_1, hcz40_2, hcz40_3, hcz40_4, hcz40_5, hcz40_6, hcz40_7⟩ := cls8 BK148.out; obtain ⟨hfz40_0, hfz40_1, hfz40_2, hfz40_3, hfz40_4, hfz40_5, hfz40_6, hfz40_7⟩ := frz8 BK148.out)))
       go_meet
       case rel => exact ⟨_, (true), rfs, H', ⟨by have := HJ1.out; have := HJ20.out; first | omega | exact Nat.le_refl _⟩, ⟨bkw⟩, ⟨blw⟩⟩
      rw [if_neg c37] at H
      have c37b0 : decide (0 < (l0_4.length : Int)) = false := decide_eq_false c37
      have c37b1 : decide (0 < l0_4.length) = false := decide_eq_false (by omega)
      clear c37
      have H' := am H
      clear H
      obtain ⟨hcz41_0, hcz41_1, hcz41_2, hcz41_3, hcz41_4, hcz41_5, hcz41_6, hcz41_7⟩ := cls8 BK148.out
      obtain ⟨hfz41_0, hfz41_1, hfz41_2, hfz41_3, hfz41_4, hfz41_5, hfz41_6, hfz41_7⟩ := frz8 BK148.out
      go_wp2_with (first | (go_at_call 52; (with_reducible refine (spec_IsValidType.calls kj20 a0_3 _ _ l0_4 _ _ l0_5 false _ ?side1 ?side2 ?side3 ?side4 A26.out).mono ?_); (case side1 => have X_ := HR0_4; exact cbl); (case side2 => exact HC0_4.out); (case side3 => have X_ := HR0_5; exact cbl); (case side4 => exact HC0_5.out); rintro e w42 ⟨rfl, hb⟩; have n0_ := am (blk_below (g := gb148) bkw hb); have n1_ := am (below_step blw hb); clear BK148; clear HB; revert n0_ n1_; intro BK148 HB; (try clear hb); (try clear hb2); (try clear hk); (try clear hi); obtain ⟨hcz43_0, hcz43_1, hcz43_2, hcz43_3, hcz43_4, hcz43_5, hcz43_6, hcz43_7⟩ := cls8 BK148.out; obtain ⟨hfz43_0, hfz43_1, hfz43_2, hfz43_3, hfz43_4, hfz43_5, hfz43_6, hfz43_7⟩ := frz8 BK148.out))
      repeat (go_quiet (first | (go_at_call 52; (with_reducible refine (spec_IsValidType.calls kj20 a0_3 _ _ l0_4 _ _ l0_5 false _ ?side1 ?side2 ?side3 ?side4 A26.out).mono ?_); (case side1 => have X_ := HR0_4; exact cbl); (case side2 => exact HC0_4.out); (case side3 => have X_ := HR0_5; exact cbl); (case side4 => exact HC0_5.out); rintro e w42 ⟨rfl, hb⟩; have n0_ := am (blk_below (g := gb148) bkw hb); have n1_ := am (below_step blw hb); clear BK148; clear HB; revert n0_ n1_; intro BK148 HB; (try clear hb); (try clear hb2); (try clear hk); (try clear hi); obtain ⟨hcz43_0, hcz43_1, hcz43_2, hcz43_3, hcz43_4, hcz43_5, hcz43_6, hcz43_7⟩ := cls8 BK148.out; obtain ⟨hfz43_0, hfz43_1, hfz43_2, hfz43_3, hfz43_4, hfz43_5, hfz43_6, hfz43_7⟩ := frz8 BK148.out)); try go_wp2_with (first | (go_at_call 52; (with_reducible refine (spec_IsValidType.calls kj20 a0_3 _ _ l0_4 _ _ l0_5 false _ ?side1 ?side2 ?side3 ?side4 A26.out).mono ?_); (case side1 => have X_ := HR0_4; exact cbl); (case side2 => exact HC0_4.out); (case side3 => have X_ := HR0_5; exact cbl); (case side4 => exact HC0_5.out); rintro e w42 ⟨rfl, hb⟩; have n0_ := am (blk_below (g := gb148) bkw hb); have n1_ := am (below_step blw hb); clear BK148; clear HB; revert n0_ n1_; intro BK148 HB; (try clear hb); (try clear hb2); (try clear hk); (try clear hi); obtain ⟨hcz43_0, hcz43_1, hcz43_2, hcz43_3, hcz43_4, hcz43_5, hcz43_6, hcz43_7⟩ := cls8 BK148.out; obtain ⟨hfz43_0, hfz43_1, hfz43_2, hfz43_3, hfz43_4, hfz43_5, hfz43_6, hfz43_7⟩ := frz8 BK148.out)))
      go_meet
      case rel => exact ⟨_, (decide ((l0_5.length : Int) > 0)), rfs, H', ⟨by have := HJ1.out; have := HJ20.out; first | omega | exact Nat.le_refl _⟩, ⟨bkw⟩, ⟨blw⟩⟩
     case rest =>
      clear HC25
      (try clear c1); (try clear c2); (try clear p2 p2); (try clear c3); (try clear c5); (try clear c5b0); (try clear c5b1); (try clear c9); (try clear c9b0); (try clear c9b1); (try clear c12); (try clear c13); (try clear c16); (try clear c20); (try clear c20b0); (try clear c20b1); (try clear c22); (try clear c22b0); (try clear c22b1); (try clear c27); (try clear c28); (try clear c33); (try clear c36); (try clear c36b0); (try clear c36b1); (try clear c37); (try clear c37b0); (try clear c37b1); (try clear hcz14_0 hcz14_1 hcz14_2 hcz14_3 hcz14_4 hcz14_5 hcz14_6 hcz14_7); (try clear hcz15_0 hcz15_1 hcz15_2 hcz15_3 hcz15_4 hcz15_5 hcz15_6 hcz15_7); (try clear hcz17_0 hcz17_1 hcz17_2 hcz17_3 hcz17_4 hcz17_5 hcz17_6 hcz17_7); (try clear hcz19_0 hcz19_1 hcz19_2 hcz19_3 hcz19_4 hcz19_5 hcz19_6 hcz19_7); (try clear hcz23_0 hcz23_1 hcz23_2 hcz23_3 hcz23_4 hcz23_5 hcz23_6 hcz23_7); (try clear hcz24_0 hcz24_1 hcz24_2 hcz24_3 hcz24_4 hcz24_5 hcz24_6 hcz24_7); (try clear hcz29_0 hcz29_1 hcz29_2 hcz29_3 hcz29_4 hcz29_5 hcz29_6 hcz29_7); (try clear hcz31_0 hcz31_1 hcz31_2 hcz31_3 hcz31_4 hcz31_5 hcz31_6 hcz31_7); (try clear hcz34_0 hcz34_1 hcz34_2 hcz34_3 hcz34_4 hcz34_5 hcz34_6 hcz34_7); (try clear hcz38_0 hcz38_1 hcz38_2 hcz38_3 hcz38_4 hcz38_5 hcz38_6 hcz38_7); (try clear hcz40_0 hcz40_1 hcz40_2 hcz40_3 hcz40_4 hcz40_5 hcz40_6 hcz40_7); (try clear hcz41_0 hcz41_1 hcz41_2 hcz41_3 hcz41_4 hcz41_5 hcz41_6 hcz41_7); (try clear hcz43_0 hcz43_1 hcz43_2 hcz43_3 hcz43_4 hcz43_5 hcz43_6 hcz43_7); (try clear hcz44_0 hcz44_1 hcz44_2 hcz44_3 hcz44_4 hcz44_5 hcz44_6 hcz44_7); (try clear hcz46_0 hcz46_1 hcz46_2 hcz46_3 hcz46_4 hcz46_5 hcz46_6 hcz46_7); (try clear hcz4_0 hcz4_1 hcz4_2 hcz4_3 hcz4_4 hcz4_5 hcz4_6 hcz4_7); (try clear hcz8_0 hcz8_1 hcz8_2 hcz8_3 hcz8_4 hcz8_5 hcz8_6 hcz8_7); (try clear hfz14_0 hfz14_1 hfz14_2 hfz14_3 hfz14_4 hfz14_5 hfz14_6 hfz14_7); (try clear hfz15_0 hfz15_1 hfz15_2 hfz15_3 hfz15_4 hfz15_5 hfz15_6 hfz15_7); (try clear hfz17_0 hfz17_1 hfz17_2 hfz17_3 hfz17_4 hfz17_5 hfz17_6 hfz17_7); (try clear hfz19_0 hfz19_1 hfz19_2 hfz19_3 hfz19_4 hfz19_5 hfz19_6 hfz19_7); (try clear hfz23_0 hfz23_1 hfz23_2 hfz23_3 hfz23_4 hfz23_5 hfz23_6 hfz23_7); (try clear hfz24_0 hfz24_1 hfz24_2 hfz24_3 hfz24_4 hfz24_5 hfz24_6 hfz24_7); (try clear hfz29_0 hfz29_1 hfz29_2 hfz29_3 hfz29_4 hfz29_5 hfz29_6 hfz29_7); (try clear hfz31_0 hfz31_1 hfz31_2 hfz31_3 hfz31_4 hfz31_5 hfz31_6 hfz31_7); (try clear hfz34_0 hfz34_1 hfz34_2 hfz34_3 hfz34_4 hfz34_5 hfz34_6 hfz34_7); (try clear hfz38_0 hfz38_1 hfz38_2 hfz38_3 hfz38_4 hfz38_5 hfz38_6 hfz38_7); (try clear hfz40_0 hfz40_1 hfz40_2 hfz40_3 hfz40_4 hfz40_5 hfz40_6 hfz40_7); (try clear hfz41_0 hfz41_1 hfz41_2 hfz41_3 hfz41_4 hfz41_5 hfz41_6 hfz41_7); (try clear hfz43_0 hfz43_1 hfz43_2 hfz43_3 hfz43_4 hfz43_5 hfz43_6 hfz43_7); (try clear hfz44_0 hfz44_1 hfz44_2 hfz44_3 hfz44_4 hfz44_5 hfz44_6 hfz44_7); (try clear hfz46_0 hfz46_1 hfz46_2 hfz46_3 hfz46_4 hfz46_5 hfz46_6 hfz46_7); (try clear hfz4_0 hfz4_1 hfz4_2 hfz4_3 hfz4_4 hfz4_5 hfz4_6 hfz4_7); (try clear hfz8_0 hfz8_1 hfz8_2 hfz8_3 hfz8_4 hfz8_5 hfz8_6 hfz8_7)
      obtain ⟨kq, x66_24, rfl, HA, HJ24, BK148, HB⟩ := hcut
      cases kq with
      | zero => exact absurd HA.out (by simp [spec_l7Fields.j2])
      | succ kj24 =>
       have H := HA.out
       clear HA
       simp only [spec_l7Fields.j2] at H
       by_cases c47 : x66_24 = true
       ·subst c47
        have H1 : (some false) = some r := by rw [if_pos rfl] at H; exact H
        clear H
        have H := H1
        clear H1
        obtain rfl := Option.some.inj H
        go_wp2
        repeat (go_quiet (fail); try go_wp2)
        go_ret
        exact ⟨rfw, blw⟩
       replace c47 := Bool.eq_false_iff.mpr c47
       subst c47
       have H1 : (if a0_0 = 5 then ((spec_l3Labels.f kj24 l0_6).bind fun t153 => (if t153 = true then (spec_l7Fields.j3 kj24 false a0_0 a0_1 a0_2 a0_3 l0_4 l0_5 l0_6 l0_7) else (spec_l7Fields.j3 kj24 true a0_0 a0_1 a0_2 a0_3 l0_4 l0_5 l0_6 l0_7))) else (spec_l7Fields.j3 kj24 (decide ((l0_6.length : Int) > 0)) a0_0 a0_1 a0_2 a0_3 l0_4 l0_5 l0_6 l0_7)) = some r := by rw [if_neg (show ¬ (false = true) by decide)] at H; exact H
       clear H
       have H := H1
       clear H1
       have HC48 := am H
       clear H
       go_upto_region 9 with (fail)
       repeat (go_quiet (fail); go_upto_region 9 with (fail))
       go_cut [86] (fun v86 wc => ∃ (kq : Nat) (x86_47 : Bool), v86 = .bool x86_47 ∧ Aside0 (spec_l7Fields.j3 kq x86_47 a0_0 a0_1 a0_2 a0_3 l0_4 l0_5 l0_6 l0_7 = some r) ∧ Aside0 (kq ≤ kj24) ∧ Aside0 (wc.heap[gb148]? = some (.cells #[.int .i64 a0_0, .string a0_1, .int .i64 a0_2, .int .i64 a0_3, (.slice A0_4 l0_4.length c0_4), (.slice A0_5 l0_5.length c0_5), (.slice A0_6 l0_6.length c0_6), (.slice A0_7 l0_7.length c0_7)] 36 (0, 0))) ∧ Aside0 (Below w.heap.size w wc))
       case first =>
        have H := HC48.out
        clear HC48
        by_cases c49 : a0_0 = 5
        case neg =>
         rw [if_neg c49] at H
         have c49b0 : (a0_0 == 5) = false := beq_eq_false_iff_ne.mpr c49
         have c49b1 : (a0_0 != 5) = true := bne_iff_ne.mpr c49
         (first | rw [c49b0] | (simp only [i64_w, i32_w]; rw [c49b0]) | (rw [c49b1]; (try simp only [Bool.not_true, Bool.not_false])) | skip)
         have H' := am H
         clear H
         obtain ⟨hcz54_0, hcz54_1, hcz54_2, hcz54_3, hcz54_4, hcz54_5, hcz54_6, hcz54_7⟩ := cls8 BK148.out
         obtain ⟨hfz54_0, hfz54_1, hfz54_2, hfz54_3, hfz54_4, hfz54_5, hfz54_6, hfz54_7⟩ := frz8 BK148.out
         go_wp2
         repeat (go_quiet (fail); try go_wp2)
         go_meet
         case rel => exact ⟨_, (decide ((l0_6.length : Int) > 0)), rfs, H', ⟨by have := HJ1.out; have := HJ20.out; have := HJ24.out; first | omega | exact Nat.le_refl _⟩, ⟨bkw⟩, ⟨blw⟩⟩
        rw [if_pos c49] at H
        have c49b0 : (a0_0 == 5) = true := beq_iff_eq.mpr c49
        have c49b1 : (a0_0 != 5) = false := bne_eq_false_iff_eq.mpr c49
        clear c49
        (first | rw [c49b0] | (simp only [i64_w, i32_w]; rw [c49b0]) | (rw [c49b1]; (try simp only [Bool.not_true, Bool.not_false])) | skip)
        replace H := Option.bind_eq_some_iff.mp H
        obtain ⟨t153, A500, H⟩ := H
        replace H : (if t153 = true then (spec_l7Fields.j3 kj24 false a0_0 a0_1 a0_2 a0_3 l0_4 l0_5 l0_6 l0_7) else (spec_l7Fields.j3 kj24 true a0_0 a0_1 a0_2 a0_3 l0_4 l0_5 l0_6 l0_7)) = some r := H
        have A50 := am A500
        clear A500
        by_cases c51 : t153 = true
        ·subst c51
         have H1 : (spec_l7Fields.j3 kj24 false a0_0 a0_1 a0_2 a0_3 l0_4 l0_5 l0_6 l0_7) = some r := by rw [if_pos rfl] at H; exact H
         clear H
         have H := H1
         clear H1
         have H' := am H
         clear H
         obtain ⟨hcz52_0, hcz52_1, hcz52_2, hcz52_3, hcz52_4, hcz52_5, hcz52_6, hcz52_7⟩ := cls8 BK148.out
         obtain ⟨hfz52_0, hfz52_1, hfz52_2, hfz52_3, hfz52_4, hfz52_5, hfz52_6, hfz52_7⟩ := frz8 BK148.out
         go_wp2_with (first | (go_at_call 53; (with_reducible refine (spec_l3Labels.calls kj24 _ _ l0_6 true _ ?side1 ?side2 A50.out).mono ?_); (case side1 => have X_ := HR0_6; exact cbl); (case side2 => exact HC0_6.out); rintro e w' ⟨rfl, ⟨nd, rfl⟩⟩; (try exact qdw)))
         repeat (go_quiet (first | (go_at_call 53; (with_reducible refine (spec_l3Labels.calls kj24 _ _ l0_6 true _ ?side1 ?side2 A50.out).mono ?_); (case side1 => have X_ := HR0_6; exact cbl); (case side2 => exact HC0_6.out); rintro e w' ⟨rfl, ⟨nd, rfl⟩⟩; (try exact qdw))); try go_wp2_with (first | (go_at_call 53; (with_reducible refine (spec_l3Labels.calls kj24 _ _ l0_6 true _ ?side1 ?side2 A50.out).mono ?_); (case side1 => have X_ := HR0_6; exact cbl); (case side2 => exact HC0_6.out); rintro e w' ⟨rfl, ⟨nd, rfl⟩⟩; (try exact qdw))))
         go_meet
         case rel => exact ⟨_, (false), rfs, H', ⟨by have := HJ1.out; have := HJ20.out; have := HJ24.out; first | omega | exact Nat.le_refl _⟩, ⟨bkw⟩, ⟨blw⟩⟩
        replace c51 := Bool.eq_false_iff.mpr c51
        subst c51
        have H1 : (spec_l7Fields.j3 kj24 true a0_0 a0_1 a0_2 a0_3 l0_4 l0_5 l0_6 l0_7) = some r := by rw [if_neg (show ¬ (false = true) by decide)] at H; exact H
        clear H
        have H := H1
        clear H1
        have H' := am H
        clear H
        obtain ⟨hcz53_0, hcz53_1, hcz53_2, hcz53_3, hcz53_4, hcz53_5, hcz53_6, hcz53_7⟩ := cls8 BK148.out
        obtain ⟨hfz53_0, hfz53_1, hfz53_2, hfz53_3, hfz53_4, hfz53_5, hfz53_6, hfz53_7⟩ := frz8 BK148.out
        go_wp2_with (first | (go_at_call 53; (with_reducible refine (spec_l3Labels.calls kj24 _ _ l0_6 false _ ?side1 ?side2 A50.out).mono ?_); (case side1 => have X_ := HR0_6; exact cbl); (case side2 => exact HC0_6.out); rintro e w' ⟨rfl, ⟨nd, rfl⟩⟩; (try exact qdw)))
        repeat (go_quiet (first | (go_at_call 53; (with_reducible refine (spec_l3Labels.calls kj24 _ _ l0_6 false _ ?side1 ?side2 A50.out).mono ?_); (case side1 => have X_ := HR0_6; exact cbl); (case side2 => exact HC0_6.out); rintro e w' ⟨rfl, ⟨nd, rfl⟩⟩; (try exact qdw))); try go_wp2_with (first | (go_at_call 53; (with_reducible refine (spec_l3Labels.calls kj24 _ _ l0_6 false _ ?side1 ?side2 A50.out).mono ?_); (case side1 => have X_ := HR0_6; exact cbl); (case side2 => exact HC0_6.out); rintro e w' ⟨rfl, ⟨nd, rfl⟩⟩; (try exact qdw))))
        go_meet
        case rel => exact ⟨_, (true), rfs, H', ⟨by have := HJ1.out; have := HJ20.out; have := HJ24.out; first | omega | exact Nat.le_refl _⟩, ⟨bkw⟩, ⟨blw⟩⟩
       case rest =>
        clear HC48
        (try clear c1); (try clear c2); (try clear p2 p2); (try clear c3); (try clear c4); (try clear c5); (try clear c5b0); (try clear c5b1); (try clear c9); (try clear c9b0); (try clear c9b1); (try clear c12); (try clear c13); (try clear c16); (try clear c20); (try clear c20b0); (try clear c20b1); (try clear c22); (try clear c22b0); (try clear c22b1); (try clear c27); (try clear c28); (try clear c33); (try clear c36); (try clear c36b0); (try clear c36b1); (try clear c37); (try clear c37b0); (try clear c37b1); (try clear c47); (try clear c49); (try clear c49b0); (try clear c49b1); (try clear c51); (try clear hcz14_0 hcz14_1 hcz14_2 hcz14_3 hcz14_4 hcz14_5 hcz14_6 hcz14_7); (try clear hcz15_0 hcz15_1 hcz15_2 hcz15_3 hcz15_4 hcz15_5 hcz15_6 hcz15_7); (try clear hcz17_0 hcz17_1 hcz17_2 hcz17_3 hcz17_4 hcz17_5 hcz17_6 hcz17_7); (try clear hcz19_0 hcz19_1 hcz19_2 hcz19_3 hcz19_4 hcz19_5 hcz19_6 hcz19_7); (try clear hcz23_0 hcz23_1 hcz23_2 hcz23_3 hcz23_4 hcz23_5 hcz23_6 hcz23_7); (try clear hcz24_0 hcz24_1 hcz24_2 hcz24_3 hcz24_4 hcz24_5 hcz24_6 hcz24_7); (try clear hcz29_0 hcz29_1 hcz29_2 hcz29_3 hcz29_4 hcz29_5 hcz29_6 hcz29_7); (try clear hcz31_0 hcz31_1 hcz31_2 hcz31_3 hcz31_4 hcz31_5 hcz31_6 hcz31_7); (try clear hcz34_0 hcz34_1 hcz34_2 hcz34_3 hcz34_4 hcz34_5 hcz34_6 hcz34_7); (try clear hcz38_0 hcz38_1 hcz38_2 hcz38_3 hcz38_4 hcz38_5 hcz38_6 hcz38_7); (try clear hcz40_0 hcz40_1 hcz40_2 hcz40_3 hcz40_4 hcz40_5 hcz40_6 hcz40_7); (try clear hcz41_0 hcz41_1 hcz41_2 hcz41_3 hcz41_4 hcz41_5 hcz41_6 hcz41_7); (try clear hcz43_0 hcz43_1 hcz43_2 hcz43_3 hcz43_4 hcz43_5 hcz43_6 hcz43_7); (try clear hcz44_0 hcz44_1 hcz44_2 hcz44_3 hcz44_4 hcz44_5 hcz44_6 hcz44_7); (try clear hcz46_0 hcz46_1 hcz46_2 hcz46_3 hcz46_4 hcz46_5 hcz46_6 hcz46_7); (try clear hcz4_0 hcz4_1 hcz4_2 hcz4_3 hcz4_4 hcz4_5 hcz4_6 hcz4_7); (try clear hcz52_0 hcz52_1 hcz52_2 hcz52_3 hcz52_4 hcz52_5 hcz52_6 hcz52_7); (try clear hcz53_0 hcz53_1 hcz53_2 hcz53_3 hcz53_4 hcz53_5 hcz53_6 hcz53_7); (try clear hcz54_0 hcz54_1 hcz54_2 hcz54_3 hcz54_4 hcz54_5 hcz54_6 hcz54_7); (try clear hcz8_0 hcz8_1 hcz8_2 hcz8_3 hcz8_4 hcz8_5 hcz8_6 hcz8_7); (try clear hfz14_0 hfz14_1 hfz14_2 hfz14_3 hfz14_4 hfz14_5 hfz14_6 hfz14_7); (try clear hfz15_0 hfz15_1 hfz15_2 hfz15_3 hfz15_4 hfz15_5 hfz15_6 hfz15_7); (try clear hfz17_0 hfz17_1 hfz17_2 hfz17_3 hfz17_4 hfz17_5 hfz17_6 hfz17_7); (try clear hfz19_0 hfz19_1 hfz19_2 hfz19_3 hfz19_4 hfz19_5 hfz19_6 hfz19_7); (try clear hfz23_0 hfz23_1 hfz23_2 hfz23_3 hfz23_4 hfz23_5 hfz23_6 hfz23_7); (try clear hfz24_0 hfz24_1 hfz24_2 hfz24_3 hfz24_4 hfz24_5 hfz24_6 hfz24_7); (try clear hfz29_0 hfz29_1 hfz29_2 hfz29_3 hfz29_4 hfz29_5 hfz29_6 hfz29_7); (try clear hfz31_0 hfz31_1 hfz31_2 hfz31_3 hfz31_4 hfz31_5 hfz31_6 hfz31_7); (try clear hfz34_0 hfz34_1 hfz34_2 hfz34_3 hfz34_4 hfz34_5 hfz34_6 hfz34_7); (try clear hfz38_0 hfz38_1 hfz38_2 hfz38_3 hfz38_4 hfz38_5 hfz38_6 hfz38_7); (try clear hfz40_0 hfz40_1 hfz40_2 hfz40_3 hfz40_4 hfz40_5 hfz40_6 hfz40_7); (try clear hfz41_0 hfz41_1 hfz41_2 hfz41_3 hfz41_4 hfz41_5 hfz41_6 hfz41_7); (try clear hfz43_0 hfz43_1 hfz43_2 hfz43_3 hfz43_4 hfz43_5 hfz43_6 hfz43_7); (try clear hfz44_0 hfz44_1 hfz44_2 hfz44_3 hfz44_4 hfz44_5 hfz44_6 hfz44_7); (try clear hfz46_0 hfz46_1 hfz46_2 hfz46_3 hfz46_4 hfz46_5 hfz46_6 hfz46_7); (try clear hfz4_0 hfz4_1 hfz4_2 hfz4_3 hfz4_4 hfz4_5 hfz4_6 hfz4_7); (try clear hfz52_0 hfz52_1 hfz52_2 hfz52_3 hfz52_4 hfz52_5 hfz52_6 hfz52_7); (try clear hfz53_0 hfz53_1 hfz53_2 hfz53_3 hfz53_4 hfz53_5 hfz53_6 hfz53_7); (try clear hfz54_0 hfz54_1 hfz54_2 hfz54_3 hfz54_4 hfz54_5 hfz54_6 hfz54_7); (try clear hfz8_0 hfz8_1 hfz8_2 hfz8_3 hfz8_4 hfz8_5 hfz8_6 hfz8_7)
        obtain ⟨kq, x86_47, rfl, HA, HJ47, BK148, HB⟩ := hcut
        cases kq with
        | zero => exact absurd HA.out (by simp [spec_l7Fields.j3])
        | succ kj47 =>
         have H := HA.out
         clear HA
         simp only [spec_l7Fields.j3] at H
         by_cases c55 : x86_47 = true
         ·subst c55
          have H1 : (some false) = some r := by rw [if_pos rfl] at H; exact H
          clear H
          have H := H1
          clear H1
          obtain rfl := Option.some.inj H
          go_wp2
          repeat (go_quiet (fail); try go_wp2)
          go_ret
          exact ⟨rfw, blw⟩
         replace c55 := Bool.eq_false_iff.mpr c55
         subst c55
         have H1 : (if a0_0 = 2 then ((spec_l1In.f a0_2 0 999).bind fun t154 => (some t154)) else (if a0_0 = 3 then ((spec_l1In.f a0_2 0 1).bind fun t155 => (some t155)) else ((spec_l1In.f a0_2 0 0).bind fun t156 => (some t156)))) = some r := by rw [if_neg (show ¬ (false = true) by decide)] at H; exact H
         clear H
         have H := H1
         clear H1
         by_cases c56 : a0_0 = 2
         ·rw [if_pos c56] at H
          have c56b0 : (a0_0 == 2) = true := beq_iff_eq.mpr c56
          have c56b1 : (a0_0 != 2) = false := bne_eq_false_iff_eq.mpr c56
          clear c56
          replace H := Option.bind_eq_some_iff.mp H
          obtain ⟨t154, A570, H⟩ := H
          replace H : (some t154) = some r := H
          have A57 := am A570
          clear A570
          obtain rfl := Option.some.inj H
          obtain ⟨hcz58_0, hcz58_1, hcz58_2, hcz58_3, hcz58_4, hcz58_5, hcz58_6, hcz58_7⟩ := cls8 BK148.out
          obtain ⟨hfz58_0, hfz58_1, hfz58_2, hfz58_3, hfz58_4, hfz58_5, hfz58_6, hfz58_7⟩ := frz8 BK148.out
          go_wp2_with (first | (go_at_call 54; (with_reducible refine (spec_l1In.calls a0_2 0 999 t154 _ A57.out).mono ?_); rintro e w' ⟨rfl, ⟨nd, rfl⟩⟩; (try exact qdw)))
          repeat (go_quiet (first | (go_at_call 54; (with_reducible refine (spec_l1In.calls a0_2 0 999 t154 _ A57.out).mono ?_); rintro e w' ⟨rfl, ⟨nd, rfl⟩⟩; (try exact qdw))); try go_wp2_with (first | (go_at_call 54; (with_reducible refine (spec_l1In.calls a0_2 0 999 t154 _ A57.out).mono ?_); rintro e w' ⟨rfl, ⟨nd, rfl⟩⟩; (try exact qdw))))
          go_ret
          exact ⟨rfw, blw⟩
         rw [if_neg c56] at H
         have c56b0 : (a0_0 == 2) = false := beq_eq_false_iff_ne.mpr c56
         have c56b1 : (a0_0 != 2) = true := bne_iff_ne.mpr c56
         by_cases c59 : a0_0 = 3
         case neg =>
          rw [if_neg c59] at H
          have c59b0 : (a0_0 == 3) = false := beq_eq_false_iff_ne.mpr c59
          have c59b1 : (a0_0 != 3) = true := bne_iff_ne.mpr c59
          replace H := Option.bind_eq_some_iff.mp H
          obtain ⟨t156, A620, H⟩ := H
          replace H : (some t156) = some r := H
          have A62 := am A620
          clear A620
          obtain rfl := Option.some.inj H
          obtain ⟨hcz63_0, hcz63_1, hcz63_2, hcz63_3, hcz63_4, hcz63_5, hcz63_6, hcz63_7⟩ := cls8 BK148.out
          obtain ⟨hfz63_0, hfz63_1, hfz63_2, hfz63_3, hfz63_4, hfz63_5, hfz63_6, hfz63_7⟩ := frz8 BK148.out
          go_wp2_with (first | (go_at_call 54; (with_reducible refine (spec_l1In.calls a0_2 0 0 t156 _ A62.out).mono ?_); rintro e w' ⟨rfl, ⟨nd, rfl⟩⟩; (try exact qdw)))
          repeat (go_quiet (first | (go_at_call 54; (with_reducible refine (spec_l1In.calls a0_2 0 0 t156 _ A62.out).mono ?_); rintro e w' ⟨rfl, ⟨nd, rfl⟩⟩; (try exact qdw))); try go_wp2_with (first | (go_at_call 54; (with_reducible refine (spec_l1In.calls a0_2 0 0 t156 _ A62.out).mono ?_); rintro e w' ⟨rfl, ⟨nd, rfl⟩⟩; (try exact qdw))))
          go_ret
          exact ⟨rfw, blw⟩
         rw [if_pos c59] at H
         have c59b0 : (a0_0 == 3) = true := beq_iff_eq.mpr c59
         have c59b1 : (a0_0 != 3) = false := bne_eq_false_iff_eq.mpr c59
         clear c59
         replace H := Option.bind_eq_some_iff.mp H
         obtain ⟨t155, A600, H⟩ := H
         replace H : (some t155) = some r := H
         have A60 := am A600
         clear A600
         obtain rfl := Option.some.inj H
         obtain ⟨hcz61_0, hcz61_1, hcz61_2, hcz61_3, hcz61_4, hcz61_5, hcz61_6, hcz61_7⟩ := cls8 BK148.out
         obtain ⟨hfz61_0, hfz61_1, hfz61_2, hfz61_3, hfz61_4, hfz61_5, hfz61_6, hfz61_7⟩ := frz8 BK148.out
         go_wp2_with (first | (go_at_call 54; (with_reducible refine (spec_l1In.calls a0_2 0 1 t155 _ A60.out).mono ?_); rintro e w' ⟨rfl, ⟨nd, rfl⟩⟩; (try exact qdw)))
         repeat (go_quiet (first | (go_at_call 54; (with_reducible refine (spec_l1In.calls a0_2 0 1 t155 _ A60.out).mono ?_); rintro e w' ⟨rfl, ⟨nd, rfl⟩⟩; (try exact qdw))); try go_wp2_with (first | (go_at_call 54; (with_reducible refine (spec_l1In.calls a0_2 0 1 t155 _ A60.out).mono ?_); rintro e w' ⟨rfl, ⟨nd, rfl⟩⟩; (try exact qdw))))
         go_ret
         exact ⟨rfw, blw⟩

end Go.Proofs.YtgplgphchdgedaaDoor.Px
end
section
namespace Go.Proofs.YtgplgphchdgedaaDoor.Px
open Go.RowKit Go.Proofs.YtgplgphchdgedaaDoor.Ext Go.Proofs.YtgplgphchdgedaaDoorW.PrintWords Go.Proofs.YtgplgphchdgedaaDoorW.PrintLast Go.Proofs.YtgplgphchdgedaaDoorW.PrintMore
attribute [local go_sem] max2_int min2_int max_two min_two max_three min_three max_four min_four   -- for this text's walks alone
set_option linter.unusedVariables false
set_option linter.unusedSimpArgs false

/-! ### spec_l7Arity: function 39 -/
mutual
def spec_l7Arity.j0 : Nat → Int → Bool → Int → ByteArray → Int → Int → List ByteArray → List (S33) → List ByteArray → List (S36) → Option (Int)
 | 0, _, _, _, _, _, _, _, _, _, _ => none
 | k + 1, x4, x5, x158000, x158001, x158002, x158003, x158004, x158005, x158006, x158007 => if x5 = true then (some 0) else (if x4 = 4 then ((spec_OpArity.f k x158001).bind fun t158 => (some t158)) else (if x4 = 5 then (some (x158006.length : Int)) else (if x4 = 6 then (spec_l7Arity.j1 k x4 (x4 == 6)) else (if x4 = 8 then (spec_l7Arity.j1 k x4 (x4 == 8)) else (if x4 = 13 then (spec_l7Arity.j1 k x4 (x4 == 13)) else (if x4 = 15 then (spec_l7Arity.j1 k x4 (x4 == 15)) else (spec_l7Arity.j1 k x4 (x4 == 16))))))))
def spec_l7Arity.j1 : Nat → Int → Bool → Option (Int)
 | 0, _, _ => none
 | k + 1, x4, x21 => if x21 = true then (some 1) else (if x4 = 9 then (spec_l7Arity.j2 k x4 (x4 == 9)) else (if x4 = 10 then (spec_l7Arity.j2 k x4 (x4 == 10)) else (spec_l7Arity.j2 k x4 (x4 == 14))))
def spec_l7Arity.j2 : Nat → Int → Bool → Option (Int)
 | 0, _, _ => none
 | k + 1, x4, x27 => if x27 = true then (some 2) else (if x4 = 11 then (some 3) else (some (-1)))
end
def spec_l7Arity.f (k : Nat) (a0_0 : Int) (a0_1 : ByteArray) (a0_2 : Int) (a0_3 : Int) (l0_4 : List ByteArray) (l0_5 : List (S33)) (l0_6 : List ByteArray) (l0_7 : List (S36)) : Option (Int) := if a0_0 = 1 then (spec_l7Arity.j0 k a0_0 (a0_0 == 1) a0_0 a0_1 a0_2 a0_3 l0_4 l0_5 l0_6 l0_7) else (if a0_0 = 2 then (spec_l7Arity.j0 k a0_0 (a0_0 == 2) a0_0 a0_1 a0_2 a0_3 l0_4 l0_5 l0_6 l0_7) else (if a0_0 = 3 then (spec_l7Arity.j0 k a0_0 (a0_0 == 3) a0_0 a0_1 a0_2 a0_3 l0_4 l0_5 l0_6 l0_7) else (if a0_0 = 7 then (spec_l7Arity.j0 k a0_0 (a0_0 == 7) a0_0 a0_1 a0_2 a0_3 l0_4 l0_5 l0_6 l0_7) else (spec_l7Arity.j0 k a0_0 (a0_0 == 12) a0_0 a0_1 a0_2 a0_3 l0_4 l0_5 l0_6 l0_7))))
set_option maxHeartbeats 8000000 in
set_option maxRecDepth 100000 in
theorem spec_l7Arity.calls (k : Nat) (a0_0 : Int) (a0_1 : ByteArray) (a0_2 : Int) (a0_3 : Int) (A0_4 : Option Addr) (c0_4 : Nat) (l0_4 : List ByteArray) (A0_5 : Option Addr) (c0_5 : Nat) (l0_5 : List (S33)) (A0_6 : Option Addr) (c0_6 : Nat) (l0_6 : List ByteArray) (A0_7 : Option Addr) (c0_7 : Nat) (l0_7 : List (S36)) (r : Int) (w : World) (hr0_4 : Kd.C Kd.string w A0_4 l0_4.length l0_4) (hc0_4 : l0_4.length ≤ c0_4) (hr0_5 : Kd.C k33 w A0_5 l0_5.length l0_5) (hc0_5 : l0_5.length ≤ c0_5) (hr0_6 : Kd.C Kd.string w A0_6 l0_6.length l0_6) (hc0_6 : l0_6.length ≤ c0_6) (hr0_7 : Kd.C k36 w A0_7 l0_7.length l0_7) (hc0_7 : l0_7.length ≤ c0_7) (h : spec_l7Arity.f k a0_0 a0_1 a0_2 a0_3 l0_4 l0_5 l0_6 l0_7 = some r) :
  Calls Tryd.prog 39 #[.agg #[.int .i64 a0_0, .string a0_1, .int .i64 a0_2, .int .i64 a0_3, .slice A0_4 l0_4.length c0_4, .slice A0_5 l0_5.length c0_5, .slice A0_6 l0_6.length c0_6, .slice A0_7 l0_7.length c0_7]] w fun e w' => e = .returned (.int .i64 r) ∧ Below w.heap.size w w' := by
 have hu36 := Tryd.underlying36
 have HR0_4 := am hr0_4
 have HC0_4 := am hc0_4
 clear hr0_4 hc0_4
 have HR0_5 := am hr0_5
 have HC0_5 := am hc0_5
 clear hr0_5 hc0_5
 have HR0_6 := am hr0_6
 have HC0_6 := am hc0_6
 clear hr0_6 hc0_6
 have HR0_7 := am hr0_7
 have HC0_7 := am hc0_7
 clear hr0_7 hc0_7
 have HB := am (Below.refl w.heap.size w)
 have H : (if a0_0 = 1 then (spec_l7Arity.j0 k a0_0 (a0_0 == 1) a0_0 a0_1 a0_2 a0_3 l0_4 l0_5 l0_6 l0_7) else (if a0_0 = 2 then (spec_l7Arity.j0 k a0_0 (a0_0 == 2) a0_0 a0_1 a0_2 a0_3 l0_4 l0_5 l0_6 l0_7) else (if a0_0 = 3 then (spec_l7Arity.j0 k a0_0 (a0_0 == 3) a0_0 a0_1 a0_2 a0_3 l0_4 l0_5 l0_6 l0_7) else (if a0_0 = 7 then (spec_l7Arity.j0 k a0_0 (a0_0 == 7) a0_0 a0_1 a0_2 a0_3 l0_4 l0_5 l0_6 l0_7) else (spec_l7Arity.j0 k a0_0 (a0_0 == 12) a0_0 a0_1 a0_2 a0_3 l0_4 l0_5 l0_6 l0_7))))) = some r := h
 clear h
 have HC2 := am H
 clear H
 go_enter Tryd.func39, Tryd.ntmps39
 go_upto_if 5 with (first | ((with_reducible refine gate_dst (N := 1) rfl ?_); refine box_event ?hg (N := 1) ?hd (cs := #[.int .i64 a0_0, .string a0_1, .int .i64 a0_2, .int .i64 a0_3, .slice A0_4 l0_4.length c0_4, .slice A0_5 l0_5.length c0_5, .slice A0_6 l0_6.length c0_6, .slice A0_7 l0_7.length c0_7]) (t := 36) ?hr ?_; (case hd => rfl); (case hg => rfl); (case hr => exact hrw); intro gb157 hg w3 hbox hb; have n0_ := am (below_step blw hb); have n1_ := am (hbox); have n2_ := am ((by rw [hg]; exact (below_size blw) : w.heap.size ≤ gb157)); have n3_ := n2_; clear HB; revert n0_ n1_ n2_ n3_; intro HB BK157 GW157 GE157; clear hb hbox hg; obtain ⟨hcz4_0, hcz4_1, hcz4_2, hcz4_3, hcz4_4, hcz4_5, hcz4_6, hcz4_7⟩ := cls8 BK157.out; obtain ⟨hfz4_0, hfz4_1, hfz4_2, hfz4_3, hfz4_4, hfz4_5, hfz4_6, hfz4_7⟩ := frz8 BK157.out))
 (try simp only [Act.put, List.setIfInBounds_toArray, List.set_cons_zero, List.set_cons_succ])
 go_cut [5] (fun v5 wc => ∃ (kq : Nat) (x5_1 : Bool), v5 = .bool x5_1 ∧ Aside0 (spec_l7Arity.j0 kq a0_0 x5_1 a0_0 a0_1 a0_2 a0_3 l0_4 l0_5 l0_6 l0_7 = some r) ∧ Aside0 (kq ≤ k) ∧ Aside0 (wc.heap[gb157]? = some (.cells #[.int .i64 a0_0, .string a0_1, .int .i64 a0_2, .int .i64 a0_3, (.slice A0_4 l0_4.length c0_4), (.slice A0_5 l0_5.length c0_5), (.slice A0_6 l0_6.length c0_6), (.slice A0_7 l0_7.length c0_7)] 36 (0, 0))) ∧ Aside0 (Below w.heap.size w wc))
 case first =>
  have H := HC2.out
  clear HC2
  by_cases c5 : a0_0 = 1
  ·rw [if_pos c5] at H
   have c5b0 : (a0_0 == 1) = true := beq_iff_eq.mpr c5
   have c5b1 : (a0_0 != 1) = false := bne_eq_false_iff_eq.mpr c5
   clear c5
   (first | rw [c5b0] | (simp only [i64_w, i32_w]; rw [c5b0]) | (rw [c5b1]; (try simp only [Bool.not_true, Bool.not_false])) | skip)
   have H' := am H
   clear H
   go_wp2
   go_meet
   case rel => exact ⟨_, ((a0_0 == 1)), rfs, H', ⟨by first | omega | exact Nat.le_refl _⟩, ⟨bkw⟩, ⟨blw⟩⟩
  rw [if_neg c5] at H
  have c5b0 : (a0_0 == 1) = false := beq_eq_false_iff_ne.mpr c5
  have c5b1 : (a0_0 != 1) = true := bne_iff_ne.mpr c5
  (first | rw [c5b0] | (simp only [i64_w, i32_w]; rw [c5b0]) | (rw [c5b1]; (try simp only [Bool.not_true, Bool.not_false])) | skip)
  by_cases c6 : a0_0 = 2
  ·rw [if_pos c6] at H
   have c6b0 : (a0_0 == 2) = true := beq_iff_eq.mpr c6
   have c6b1 : (a0_0 != 2) = false := bne_eq_false_iff_eq.mpr c6
   clear c6
   have H' := am H
   clear H
   go_wp2
   go_meet
   case rel => exact ⟨_, ((a0_0 == 2)), rfs, H', ⟨by first | omega | exact Nat.le_refl _⟩, ⟨bkw⟩, ⟨blw⟩⟩
  rw [if_neg c6] at H
  have c6b0 : (a0_0 == 2) = false := beq_eq_false_iff_ne.mpr c6
  have c6b1 : (a0_0 != 2) = true := bne_iff_ne.mpr c6
  by_cases c7 : a0_0 = 3
  ·rw [if_pos c7] at H
   have c7b0 : (a0_0 == 3) = true := beq_iff_eq.mpr c7
   have c7b1 : (a0_0 != 3) = false := bne_eq_false_iff_eq.mpr c7
   clear c7
   have H' := am H
   clear H
   go_wp2
   go_meet
   case rel => exact ⟨_, ((a0_0 == 3)), rfs, H', ⟨by first | omega | exact Nat.le_refl _⟩, ⟨bkw⟩, ⟨blw⟩⟩
  rw [if_neg c7] at H
  have c7b0 : (a0_0 == 3) = false := beq_eq_false_iff_ne.mpr c7
  have c7b1 : (a0_0 != 3) = true := bne_iff_ne.mpr c7
  by_cases c8 : a0_0 = 7
  case neg =>
   rw [if_neg c8] at H
   have c8b0 : (a0_0 == 7) = false := beq_eq_false_iff_ne.mpr c8
   have c8b1 : (a0_0 != 7) = true := bne_iff_ne.mpr c8
   have H' := am H
   clear H
   go_wp2
   go_meet
   case rel => exact ⟨_, ((a0_0 == 12)), rfs, H', ⟨by first | omega | exact Nat.le_refl _⟩, ⟨bkw⟩, ⟨blw⟩⟩
  rw [if_pos c8] at H
  have c8b0 : (a0_0 == 7) = true := beq_iff_eq.mpr c8
  have c8b1 : (a0_0 != 7) = false := bne_eq_false_iff_eq.mpr c8
  clear c8
  have H' := am H
  clear H
  go_wp2
  go_meet
  case rel => exact ⟨_, ((a0_0 == 7)), rfs, H', ⟨by first | omega | exact Nat.le_refl _⟩, ⟨bkw⟩, ⟨blw⟩⟩
 case rest =>
  clear HC2
  (try clear p2); (try clear c3); (try clear c5); (try clear c5b0); (try clear c5b1); (try clear c6); (try clear c6b0); (try clear c6b1); (try clear c7); (try clear c7b0); (try clear c7b1); (try clear c8); (try clear c8b0); (try clear c8b1); (try clear hcz4_0 hcz4_1 hcz4_2 hcz4_3 hcz4_4 hcz4_5 hcz4_6 hcz4_7); (try clear hfz4_0 hfz4_1 hfz4_2 hfz4_3 hfz4_4 hfz4_5 hfz4_6 hfz4_7)
  obtain ⟨kq, x5_1, rfl, HA, HJ1, BK157, HB⟩ := hcut
  cases kq with
  | zero => exact absurd HA.out (by simp [spec_l7Arity.j0])
  | succ kj1 =>
   have H := HA.out
   clear HA
   simp only [spec_l7Arity.j0] at H
   by_cases c9 : x5_1 = true
   ·subst c9
    have H1 : (some 0) = some r := by rw [if_pos rfl] at H; exact H
    clear H
    have H := H1
    clear H1
    obtain rfl := Option.some.inj H
    go_wp2
    go_ret
    exact ⟨rfw, blw⟩
   replace c9 := Bool.eq_false_iff.mpr c9
   subst c9
   have H1 : (if a0_0 = 4 then ((spec_OpArity.f kj1 a0_1).bind fun t158 => (some t158)) else (if a0_0 = 5 then (some (l0_6.length : Int)) else (if a0_0 = 6 then (spec_l7Arity.j1 kj1 a0_0 (a0_0 == 6)) else (if a0_0 = 8 then (spec_l7Arity.j1 kj1 a0_0 (a0_0 == 8)) else (if a0_0 = 13 then (spec_l7Arity.j1 kj1 a0_0 (a0_0 == 13)) else (if a0_0 = 15 then (spec_l7Arity.j1 kj1 a0_0 (a0_0 == 15)) else (spec_l7Arity.j1 kj1 a0_0 (a0_0 == 16)))))))) = some r := by rw [if_neg (show ¬ (false = true) by decide)] at H; exact H
   clear H
   have H := H1
   clear H1
   by_cases c10 : a0_0 = 4
   ·rw [if_pos c10] at H
    have c10b0 : (a0_0 == 4) = true := beq_iff_eq.mpr c10
    have c10b1 : (a0_0 != 4) = false := bne_eq_false_iff_eq.mpr c10
    clear c10
    replace H := Option.bind_eq_some_iff.mp H
    obtain ⟨t158, A110, H⟩ := H
    replace H : (some t158) = some r := H
    have A11 := am A110
    clear A110
    obtain rfl := Option.some.inj H
    obtain ⟨hcz12_0, hcz12_1, hcz12_2, hcz12_3, hcz12_4, hcz12_5, hcz12_6, hcz12_7⟩ := cls8 BK157.out
    obtain ⟨hfz12_0, hfz12_1, hfz12_2, hfz12_3, hfz12_4, hfz12_5, hfz12_6, hfz12_7⟩ := frz8 BK157.out
    go_wp2_with (first | ((with_reducible refine gate_callee (f := 49) rfl ?_); refine goesL_ (some 15) rfl rfl Tryd.func49 kr rfl #[.string a0_1] rfl mpw ?_; (with_reducible refine (spec_OpArity.calls kj1 a0_1 t158 _ A11.out).mono ?_); rintro e w' ⟨rfl, ⟨nd, rfl⟩⟩; refine ⟨_, rfl, ?_⟩))
    go_ret
    exact ⟨rfw, blw⟩
   rw [if_neg c10] at H
   have c10b0 : (a0_0 == 4) = false := beq_eq_false_iff_ne.mpr c10
   have c10b1 : (a0_0 != 4) = true := bne_iff_ne.mpr c10
   by_cases c13 : a0_0 = 5
   ·rw [if_pos c13] at H
    have c13b0 : (a0_0 == 5) = true := beq_iff_eq.mpr c13
    have c13b1 : (a0_0 != 5) = false := bne_eq_false_iff_eq.mpr c13
    clear c13
    obtain rfl := Option.some.inj H
    obtain ⟨hcz14_0, hcz14_1, hcz14_2, hcz14_3, hcz14_4, hcz14_5, hcz14_6, hcz14_7⟩ := cls8 BK157.out
    obtain ⟨hfz14_0, hfz14_1, hfz14_2, hfz14_3, hfz14_4, hfz14_5, hfz14_6, hfz14_7⟩ := frz8 BK157.out
    go_wp2
    go_ret
    exact ⟨rfw, blw⟩
   rw [if_neg c13] at H
   have c13b0 : (a0_0 == 5) = false := beq_eq_false_iff_ne.mpr c13
   have c13b1 : (a0_0 != 5) = true := bne_iff_ne.mpr c13
   have HC15 := am H
   clear H
   go_upto_if 21 with (fail)
   go_cut [21] (fun v21 wc => ∃ (kq : Nat) (x21_14 : Bool), v21 = .bool x21_14 ∧ Aside0 (spec_l7Arity.j1 kq a0_0 x21_14 = some r) ∧ Aside0 (kq ≤ kj1) ∧ Aside0 (wc.heap[gb157]? = some (.cells #[.int .i64 a0_0, .string a0_1, .int .i64 a0_2, .int .i64 a0_3, (.slice A0_4 l0_4.length c0_4), (.slice A0_5 l0_5.length c0_5), (.slice A0_6 l0_6.length c0_6), (.slice A0_7 l0_7.length c0_7)] 36 (0, 0))) ∧ Aside0 (Below w.heap.size w wc))
   case first =>
    have H := HC15.out
    clear HC15
    by_cases c16 : a0_0 = 6
    ·rw [if_pos c16] at H
     have c16b0 : (a0_0 == 6) = true := beq_iff_eq.mpr c16
     have c16b1 : (a0_0 != 6) = false := bne_eq_false_iff_eq.mpr c16
     clear c16
     (first | rw [c16b0] | (simp only [i64_w, i32_w]; rw [c16b0]) | (rw [c16b1]; (try simp only [Bool.not_true, Bool.not_false])) | skip)
     have H' := am H
     clear H
     go_wp2
     go_meet
     case rel => exact ⟨_, ((a0_0 == 6)), rfs, H', ⟨by have := HJ1.out; first | omega | exact Nat.le_refl _⟩, ⟨bkw⟩, ⟨blw⟩⟩
    rw [if_neg c16] at H
    have c16b0 : (a0_0 == 6) = false := beq_eq_false_iff_ne.mpr c16
    have c16b1 : (a0_0 != 6) = true := bne_iff_ne.mpr c16
    (first | rw [c16b0] | (simp only [i64_w, i32_w]; rw [c16b0]) | (rw [c16b1]; (try simp only [Bool.not_true, Bool.not_false])) | skip)
    by_cases c17 : a0_0 = 8
    ·rw [if_pos c17] at H
     have c17b0 : (a0_0 == 8) = true := beq_iff_eq.mpr c17
     have c17b1 : (a0_0 != 8) = false := bne_eq_false_iff_eq.mpr c17
     clear c17
     have H' := am H
     clear H
     go_wp2
     go_meet
     case rel => exact ⟨_, ((a0_0 == 8)), rfs, H', ⟨by have := HJ1.out; first | omega | exact Nat.le_refl _⟩, ⟨bkw⟩, ⟨blw⟩⟩
    rw [if_neg c17] at H
    have c17b0 : (a0_0 == 8) = false := beq_eq_false_iff_ne.mpr c17
    have c17b1 : (a0_0 != 8) = true := bne_iff_ne.mpr c17
    by_cases c18 : a0_0 = 13
    ·rw [if_pos c18] at H
     have c18b0 : (a0_0 == 13) = true := beq_iff_eq.mpr c18
     have c18b1 : (a0_0 != 13) = false := bne_eq_false_iff_eq.mpr c18
     clear c18
     have H' := am H
     clear H
     go_wp2
     go_meet
     case rel => exact ⟨_, ((a0_0 == 13)), rfs, H', ⟨by have := HJ1.out; first | omega | exact Nat.le_refl _⟩, ⟨bkw⟩, ⟨blw⟩⟩
    rw [if_neg c18] at H
    have c18b0 : (a0_0 == 13) = false := beq_eq_false_iff_ne.mpr c18
    have c18b1 : (a0_0 != 13) = true := bne_iff_ne.mpr c18
    by_cases c19 : a0_0 = 15
    case neg =>
     rw [if_neg c19] at H
     have c19b0 : (a0_0 == 15) = false := beq_eq_false_iff_ne.mpr c19
     have c19b1 : (a0_0 != 15) = true := bne_iff_ne.mpr c19
     have H' := am H
     clear H
     go_wp2
     go_meet
     case rel => exact ⟨_, ((a0_0 == 16)), rfs, H', ⟨by have := HJ1.out; first | omega | exact Nat.le_refl _⟩, ⟨bkw⟩, ⟨blw⟩⟩
    rw [if_pos c19] at H
    have c19b0 : (a0_0 == 15) = true := beq_iff_eq.mpr c19
    have c19b1 : (a0_0 != 15) = false := bne_eq_false_iff_eq.mpr c19
    clear c19
    have H' := am H
    clear H
    go_wp2
    go_meet
    case rel => exact ⟨_, ((a0_0 == 15)), rfs, H', ⟨by have := HJ1.out; first | omega | exact Nat.le_refl _⟩, ⟨bkw⟩, ⟨blw⟩⟩
   case rest =>
    clear HC15
    (try clear c1); (try clear p2 p2); (try clear c3); (try clear c4); (try clear c5); (try clear c5b0); (try clear c5b1); (try clear c6); (try clear c6b0); (try clear c6b1); (try clear c7); (try clear c7b0); (try clear c7b1); (try clear c8); (try clear c8b0); (try clear c8b1); (try clear c9); (try clear c10); (try clear c10b0); (try clear c10b1); (try clear c13); (try clear c13b0); (try clear c13b1); (try clear c16); (try clear c16b0); (try clear c16b1); (try clear c17); (try clear c17b0); (try clear c17b1); (try clear c18); (try clear c18b0); (try clear c18b1); (try clear c19); (try clear c19b0); (try clear c19b1); (try clear hcz12_0 hcz12_1 hcz12_2 hcz12_3 hcz12_4 hcz12_5 hcz12_6 hcz12_7); (try clear hcz14_0 hcz14_1 hcz14_2 hcz14_3 hcz14_4 hcz14_5 hcz14_6 hcz14_7); (try clear hcz4_0 hcz4_1 hcz4_2 hcz4_3 hcz4_4 hcz4_5 hcz4_6 hcz4_7); (try clear hfz12_0 hfz12_1 hfz12_2 hfz12_3 hfz12_4 hfz12_5 hfz12_6 hfz12_7); (try clear hfz14_0 hfz14_1 hfz14_2 hfz14_3 hfz14_4 hfz14_5 hfz14_6 hfz14_7); (try clear hfz4_0 hfz4_1 hfz4_2 hfz4_3 hfz4_4 hfz4_5 hfz4_6 hfz4_7)
    obtain ⟨kq, x21_14, rfl, HA, HJ14, BK157, HB⟩ := hcut
    cases kq with
    | zero => exact absurd HA.out (by simp [spec_l7Arity.j1])
    | succ kj14 =>
     have H := HA.out
     clear HA
     simp only [spec_l7Arity.j1] at H
     by_cases c20 : x21_14 = true
     ·subst c20
      have H1 : (some 1) = some r := by rw [if_pos rfl] at H; exact H
      clear H
      have H := H1
      clear H1
      obtain rfl := Option.some.inj H
      go_wp2
      go_ret
      exact ⟨rfw, blw⟩
     replace c20 := Bool.eq_false_iff.mpr c20
     subst c20
     have H1 : (if a0_0 = 9 then (spec_l7Arity.j2 kj14 a0_0 (a0_0 == 9)) else (if a0_0 = 10 then (spec_l7Arity.j2 kj14 a0_0 (a0_0 == 10)) else (spec_l7Arity.j2 kj14 a0_0 (a0_0 == 14)))) = some r := by rw [if_neg (show ¬ (false = true) by decide)] at H; exact H
     clear H
     have H := H1
     clear H1
     have HC21 := am H
     clear H
     go_upto_if 27 with (fail)
     go_cut [27] (fun v27 wc => ∃ (kq : Nat) (x27_20 : Bool), v27 = .bool x27_20 ∧ Aside0 (spec_l7Arity.j2 kq a0_0 x27_20 = some r) ∧ Aside0 (kq ≤ kj14) ∧ Aside0 (wc.heap[gb157]? = some (.cells #[.int .i64 a0_0, .string a0_1, .int .i64 a0_2, .int .i64 a0_3, (.slice A0_4 l0_4.length c0_4), (.slice A0_5 l0_5.length c0_5), (.slice A0_6 l0_6.length c0_6), (.slice A0_7 l0_7.length c0_7)] 36 (0, 0))) ∧ Aside0 (Below w.heap.size w wc))
     case first =>
      have H := HC21.out
      clear HC21
      by_cases c22 : a0_0 = 9
      ·rw [if_pos c22] at H
       have c22b0 : (a0_0 == 9) = true := beq_iff_eq.mpr c22
       have c22b1 : (a0_0 != 9) = false := bne_eq_false_iff_eq.mpr c22
       clear c22
       (first | rw [c22b0] | (simp only [i64_w, i32_w]; rw [c22b0]) | (rw [c22b1]; (try simp only [Bool.not_true, Bool.not_false])) | skip)
       have H' := am H
       clear H
       go_wp2
       go_meet
       case rel => exact ⟨_, ((a0_0 == 9)), rfs, H', ⟨by have := HJ1.out; have := HJ14.out; first | omega | exact Nat.le_refl _⟩, ⟨bkw⟩, ⟨blw⟩⟩
      rw [if_neg c22] at H
      have c22b0 : (a0_0 == 9) = false := beq_eq_false_iff_ne.mpr c22
      have c22b1 : (a0_0 != 9) = true := bne_iff_ne.mpr c22
      (first | rw [c22b0] | (simp only [i64_w, i32_w]; rw [c22b0]) | (rw [c22b1]; (try simp only [Bool.not_true, Bool.not_false])) | skip)
      by_cases c23 : a0_0 = 10
      case neg =>
       rw [if_neg c23] at H
       have c23b0 : (a0_0 == 10) = false := beq_eq_false_iff_ne.mpr c23
       have c23b1 : (a0_0 != 10) = true := bne_iff_ne.mpr c23
       have H' := am H
       clear H
       go_wp2
       go_meet
       case rel => exact ⟨_, ((a0_0 == 14)), rfs, H', ⟨by have := HJ1.out; have := HJ14.out; first | omega | exact Nat.le_refl _⟩, ⟨bkw⟩, ⟨blw⟩⟩
      rw [if_pos c23] at H
      have c23b0 : (a0_0 == 10) = true := beq_iff_eq.mpr c23
      have c23b1 : (a0_0 != 10) = false := bne_eq_false_iff_eq.mpr c23
      clear c23
      have H' := am H
      clear H
      go_wp2
      go_meet
      case rel => exact ⟨_, ((a0_0 == 10)), rfs, H', ⟨by have := HJ1.out; have := HJ14.out; first | omega | exact Nat.le_refl _⟩, ⟨bkw⟩, ⟨blw⟩⟩
     case rest =>
      clear HC21
      (try clear c1); (try clear c2); (try clear p2 p2); (try clear c3); (try clear c4); (try clear c5); (try clear c5b0); (try clear c5b1); (try clear c6); (try clear c6b0); (try clear c6b1); (try clear c7); (try clear c7b0); (try clear c7b1); (try clear c8); (try clear c8b0); (try clear c8b1); (try clear c9); (try clear c10); (try clear c10b0); (try clear c10b1); (try clear c13); (try clear c13b0); (try clear c13b1); (try clear c16); (try clear c16b0); (try clear c16b1); (try clear c17); (try clear c17b0); (try clear c17b1); (try clear c18); (try clear c18b0); (try clear c18b1); (try clear c19); (try clear c19b0); (try clear c19b1); (try clear c20); (try clear c22); (try clear c22b0); (try clear c22b1); (try clear c23); (try clear c23b0); (try clear c23b1); (try clear hcz12_0 hcz12_1 hcz12_2 hcz12_3 hcz12_4 hcz12_5 hcz12_6 hcz12_7); (try clear hcz14_0 hcz14_1 hcz14_2 hcz14_3 hcz14_4 hcz14_5 hcz14_6 hcz14_7); (try clear hcz4_0 hcz4_1 hcz4_2 hcz4_3 hcz4_4 hcz4_5 hcz4_6 hcz4_7); (try clear hfz12_0 hfz12_1 hfz12_2 hfz12_3 hfz12_4 hfz12_5 hfz12_6 hfz12_7); (try clear hfz14_0 hfz14_1 hfz14_2 hfz14_3 hfz14_4 hfz14_5 hfz14_6 hfz14_7); (try clear hfz4_0 hfz4_1 hfz4_2 hfz4_3 hfz4_4 hfz4_5 hfz4_6 hfz4_7)
      obtain ⟨kq, x27_20, rfl, HA, HJ20, BK157, HB⟩ := hcut
      cases kq with
      | zero => exact absurd HA.out (by simp [spec_l7Arity.j2])
      | succ kj20 =>
       have H := HA.out
       clear HA
       simp only [spec_l7Arity.j2] at H
       by_cases c24 : x27_20 = true
       ·subst c24
        have H1 : (some 2) = some r := by rw [if_pos rfl] at H; exact H
        clear H
        have H := H1
        clear H1
        obtain rfl := Option.some.inj H
        go_wp2
        go_ret
        exact ⟨rfw, blw⟩
       replace c24 := Bool.eq_false_iff.mpr c24
       subst c24
       have H1 : (if a0_0 = 11 then (some 3) else (some (-1))) = some r := by rw [if_neg (show ¬ (false = true) by decide)] at H; exact H
       clear H
       have H := H1
       clear H1
       by_cases c25 : a0_0 = 11
       case neg =>
        rw [if_neg c25] at H
        have c25b0 : (a0_0 == 11) = false := beq_eq_false_iff_ne.mpr c25
        have c25b1 : (a0_0 != 11) = true := bne_iff_ne.mpr c25
        obtain rfl := Option.some.inj H
        go_wp2
        go_ret
        exact ⟨rfw, blw⟩
       rw [if_pos c25] at H
       have c25b0 : (a0_0 == 11) = true := beq_iff_eq.mpr c25
       have c25b1 : (a0_0 != 11) = false := bne_eq_false_iff_eq.mpr c25
       clear c25
       obtain rfl := Option.some.inj H
       go_wp2
       go_ret
       exact ⟨rfw, blw⟩

end Go.Proofs.YtgplgphchdgedaaDoor.Px
end
