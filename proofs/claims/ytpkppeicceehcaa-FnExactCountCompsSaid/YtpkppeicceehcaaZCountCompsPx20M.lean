/- Printed by a program of this session: what functions of the translation come to, each contract as it stands. No condition. -/
import Derived.Test.YtpkppeicceehcaaZCountCompsSh
import Derived.Test.YtpkppeicceehcaaZCountCompsPx0
import Derived.Test.YtpkppeicceehcaaZCountCompsPxFQueryDM
import Derived.Test.YtpkppeicceehcaaZCountCompsPlM
import Derived.Test.YtpkppeicceehcaaZCountCompsWLastM
import Derived.Deep.MidRow
section
namespace Go.Proofs.Ytpkppeicceehcaa.Px
set_option maxHeartbeats 8000000
set_option maxRecDepth 100000
open Go.RowKit Go.Proofs.Ytpkppeicceehcaa.Ext Go.Proofs.YtpkppeicceehcaaW.PrintWords Go.Proofs.YtpkppeicceehcaaW.PrintLast Go.Proofs.YtpkppeicceehcaaW.PrintMore
attribute [local go_sem] max2_int min2_int max_two min_two max_three min_three max_four min_four   -- for this text's walks alone
set_option linter.unusedVariables false
set_option linter.unusedSimpArgs false

/-! ### spec_l13Nested: function 16 -/
mutual
def spec_l13Nested.l0 : Nat → List (S29) → Int → Int → Int → ByteArray → Int → Int → List ByteArray → List (S41) → List ByteArray → List (S44) → List ByteArray → List (S47) → List (S49) → Option ((List (S29)))
 | 0, _, _, _, _, _, _, _, _, _, _, _, _, _, _ => none
 | k + 1, x3, x4, x519000, x519001, x519002, x519003, x519004, x519005, x519006, x519007, x519008, x519009, x519010, x519011 => if x4 < (x519010.length : Int) then (if 0 ≤ x4 then ((spec_l13Nested.f k ((rd_T47 x519010 x4).f0) ((rd_T47 x519010 x4).f1.f0) ((rd_T47 x519010 x4).f1.f1) ((rd_T47 x519010 x4).f1.f2) ((rd_T47 x519010 x4).f1.f3.f0) ((rd_T47 x519010 x4).f1.f3.f1) ((rd_T47 x519010 x4).f1.f3.f2) ((rd_T47 x519010 x4).f1.f4) ((rd_T47 x519010 x4).f1.f5) ((rd_T47 x519010 x4).f2) ((rd_T47 x519010 x4).f3) ((rd_T47 x519010 x4).f4.f0)).bind fun t526 => (if x3.length + t526.length < 5864062014805 then (spec_l13Nested.l0 k (x3 ++ t526) (wrap64 (x4 + 1)) x519000 x519001 x519002 x519003 x519004 x519005 x519006 x519007 x519008 x519009 x519010 x519011) else (none))) else (none)) else (some x3)
def spec_l13Nested.f : Nat → Int → Int → ByteArray → Int → Int → List ByteArray → List (S41) → List ByteArray → List (S44) → List ByteArray → List (S47) → List (S49) → Option ((List (S29)))
 | 0, _, _, _, _, _, _, _, _, _, _, _, _ => none
 | k + 1, a0_0, a0_1, a0_2, a0_3, a0_4, l0_5, l0_6, l0_7, l0_8, l0_9, l0_10, l0_11 => (some (([] : List (S29)) : List (S29))).bind fun y519 => (if a0_0 = 3 then (if y519.length < 5864062014805 then (some (y519 ++ [(⟨l0_11⟩ : S29)])) else (none)) else (spec_l13Nested.l0 k y519 0 a0_0 a0_1 a0_2 a0_3 a0_4 l0_5 l0_6 l0_7 l0_8 l0_9 l0_10 l0_11))
end
theorem spec_l13Nested.calls (k : Nat) : ∀ (a0_0 : Int) (a0_1 : Int) (a0_2 : ByteArray) (a0_3 : Int) (a0_4 : Int) (A0_5 : Option Addr) (c0_5 : Nat) (l0_5 : List ByteArray) (A0_6 : Option Addr) (c0_6 : Nat) (l0_6 : List (S41)) (A0_7 : Option Addr) (c0_7 : Nat) (l0_7 : List ByteArray) (A0_8 : Option Addr) (c0_8 : Nat) (l0_8 : List (S44)) (A0_9 : Option Addr) (c0_9 : Nat) (l0_9 : List ByteArray) (P0_10_ : Nat → Prop) (A0_10 : Option Addr) (c0_10 : Nat) (l0_10 : List (S47)) (P0_11_ : Nat → Prop) (A0_11 : Option Addr) (c0_11 : Nat) (l0_11 : List (S49)) (r : List (S29)) (w : World) (hr0_5 : Kd.C Kd.string w A0_5 l0_5.length l0_5) (hc0_5 : l0_5.length ≤ c0_5) (hr0_6 : Kd.C k41 w A0_6 l0_6.length l0_6) (hc0_6 : l0_6.length ≤ c0_6) (hr0_7 : Kd.C Kd.string w A0_7 l0_7.length l0_7) (hc0_7 : l0_7.length ≤ c0_7) (hr0_8 : Kd.C k44 w A0_8 l0_8.length l0_8) (hc0_8 : l0_8.length ≤ c0_8) (hr0_9 : Kd.C Kd.string w A0_9 l0_9.length l0_9) (hc0_9 : l0_9.length ≤ c0_9) (hs0_10 : Kd.V k47 47 w w.heap.size (fun k_ => P0_10_ k_) (.slice A0_10 l0_10.length c0_10) l0_10) (hs0_11 : Kd.V k49 49 w w.heap.size (fun k_ => P0_11_ k_) (.slice A0_11 l0_11.length c0_11) l0_11) (h : spec_l13Nested.f k a0_0 a0_1 a0_2 a0_3 a0_4 l0_5 l0_6 l0_7 l0_8 l0_9 l0_10 l0_11 = some r),
  Calls Try.prog 16 #[.agg #[.int .i64 a0_0, .int .i64 a0_1, .string a0_2, .int .i64 a0_3, .int .i64 a0_4, .slice A0_5 l0_5.length c0_5, .slice A0_6 l0_6.length c0_6, .slice A0_7 l0_7.length c0_7, .slice A0_8 l0_8.length c0_8, .slice A0_9 l0_9.length c0_9, .slice A0_10 l0_10.length c0_10, .slice A0_11 l0_11.length c0_11]] w fun e w' => ∃ v0_ : Value, e = .returned (v0_) ∧ Kd.N k29 29 w' w.heap.size (fun k_ => ((P0_10_ k_ ∨ P0_11_ k_) ∨ w.heap.size ≤ k_)) v0_ r ∧ Below w.heap.size w w' := by
 induction k using Nat.strongRecOn with
 | _ k ih =>
 intro a0_0 a0_1 a0_2 a0_3 a0_4 A0_5 c0_5 l0_5 A0_6 c0_6 l0_6 A0_7 c0_7 l0_7 A0_8 c0_8 l0_8 A0_9 c0_9 l0_9 P0_10_ A0_10 c0_10 l0_10 P0_11_ A0_11 c0_11 l0_11 r w hr0_5 hc0_5 hr0_6 hc0_6 hr0_7 hc0_7 hr0_8 hc0_8 hr0_9 hc0_9 hs0_10 hs0_11 h
 cases k with
 | zero => exact absurd h (by simp [spec_l13Nested.f])
 | succ k =>
 simp only [spec_l13Nested.f] at h
 have hu47 := Try.underlying47
 have hu29 := Try.underlying29
 have HR0_5 := am hr0_5
 have HC0_5 := am hc0_5
 clear hr0_5 hc0_5
 have HR0_6 := am hr0_6
 have HC0_6 := am hc0_6
 clear hr0_6 hc0_6
 have HR0_7 := am hr0_7
 have HC0_7 := am hc0_7
 clear hr0_7 hc0_7
 have HR0_8 := am hr0_8
 have HC0_8 := am hc0_8
 clear hr0_8 hc0_8
 have HR0_9 := am hr0_9
 have HC0_9 := am hc0_9
 clear hr0_9 hc0_9
 have HO0_10 := am (show Kd.V k47 47 w w.heap.size (fun k_ => ((P0_10_ k_ ∨ P0_11_ k_) ∨ w.heap.size ≤ k_)) (.slice A0_10 l0_10.length c0_10) l0_10 from Kd.V_mono hs0_10 (fun k_ hk => .inl (.inl hk)))
 have HO0_11 := am (show Kd.V k49 49 w w.heap.size (fun k_ => ((P0_10_ k_ ∨ P0_11_ k_) ∨ w.heap.size ≤ k_)) (.slice A0_11 l0_11.length c0_11) l0_11 from Kd.V_mono hs0_11 (fun k_ hk => .inl (.inr hk)))
 have HB := am (Below.refl w.heap.size w)
 have H : ((some (([] : List (S29)) : List (S29))).bind fun y519 => (if a0_0 = 3 then (if y519.length < 5864062014805 then (some (y519 ++ [(⟨l0_11⟩ : S29)])) else (none)) else (spec_l13Nested.l0 k y519 0 a0_0 a0_1 a0_2 a0_3 a0_4 l0_5 l0_6 l0_7 l0_8 l0_9 l0_10 l0_11))) = some r := h
 clear h
 obtain ⟨y519, hy519⟩ : ∃ y_ : List (S29), y_ = (([] : List (S29))) := ⟨_, rfl⟩
 replace H : (if a0_0 = 3 then (if y519.length < 5864062014805 then (some (y519 ++ [(⟨l0_11⟩ : S29)])) else (none)) else (spec_l13Nested.l0 k y519 0 a0_0 a0_1 a0_2 a0_3 a0_4 l0_5 l0_6 l0_7 l0_8 l0_9 l0_10 l0_11)) = some r := by first | (rw [hy519]; with_reducible exact H) | (have H2_ := (Option.bind_some _ _).symm.trans H; rw [hy519]; with_reducible exact H2_) | (have H2_ := (Option.bind_some _ _).symm.trans H; with_reducible exact H2_) | with_reducible exact H | (rw [hy519]; exact H) | exact H
 have Ny519 := am hy519
 clear hy519
 by_cases c2 : a0_0 = 3
 ·rw [if_pos c2] at H
  have c2b0 : (a0_0 == 3) = true := beq_iff_eq.mpr c2
  have c2b1 : (a0_0 != 3) = false := bne_eq_false_iff_eq.mpr c2
  clear c2
  by_cases c3 : y519.length < 5864062014805
  case neg =>
   rw [if_neg c3] at H
   exact absurd H (by simp)
  rw [if_pos c3] at H
  have LMc3 := am c3
  clear c3
  obtain ⟨y522, hy522⟩ : ∃ y_ : List (S29), y_ = (y519 ++ [(⟨l0_11⟩ : S29)]) := ⟨_, rfl⟩
  replace H : (some y522) = some r := by first | (rw [hy522]; with_reducible exact H) | (have H2_ := (Option.bind_some _ _).symm.trans H; rw [hy522]; with_reducible exact H2_) | (have H2_ := (Option.bind_some _ _).symm.trans H; with_reducible exact H2_) | with_reducible exact H | (rw [hy522]; exact H) | exact H
  have Ny522 := am hy522
  clear hy522
  obtain rfl := Option.some.inj H
  go_enter Try.func16, Try.ntmps16
  go_wp2_with (first | ((with_reducible refine gate_dst (N := 1) rfl ?_); refine box_event ?hg (N := 1) ?hd (cs := #[.int .i64 a0_0, .int .i64 a0_1, .string a0_2, .int .i64 a0_3, .int .i64 a0_4, .slice A0_5 l0_5.length c0_5, .slice A0_6 l0_6.length c0_6, .slice A0_7 l0_7.length c0_7, .slice A0_8 l0_8.length c0_8, .slice A0_9 l0_9.length c0_9, .slice A0_10 l0_10.length c0_10, .slice A0_11 l0_11.length c0_11]) (t := 47) ?hr ?_; (case hd => rfl); (case hg => rfl); (case hr => exact hrw); intro gb518 hg w4 hbox hb; have n0_ := am (Kd.V_below (Kd.V_elderB (by (with_reducible repeat (first | apply Kd.V_alloc | apply Kd.V_drewN | apply Kd.V_drew)); exact HO0_10.out) gb518 (Nat.le_of_eq hg.symm)) hb); have n1_ := am (Kd.V_below (Kd.V_elderB (by (with_reducible repeat (first | apply Kd.V_alloc | apply Kd.V_drewN | apply Kd.V_drew)); exact HO0_11.out) gb518 (Nat.le_of_eq hg.symm)) hb); have n2_ := am (below_step blw hb); have n3_ := am (hbox); have n4_ := am ((by rw [hg]; exact (below_size blw) : w.heap.size ≤ gb518)); have n5_ := n4_; clear HO0_10; clear HO0_11; clear HB; revert n0_ n1_ n2_ n3_ n4_ n5_; intro HO0_10 HO0_11 HB BK518 GW518 GE518; clear hb hbox hg) | ((with_reducible refine gate_dst (N := 5) rfl ?_); refine Kd.N_lit k29 _ 29 ?hg (N' := 5) ?hd (xs := ([] : List (S29))) (inner := []) (ok := (fun k_ => ((P0_10_ k_ ∨ P0_11_ k_) ∨ w.heap.size ≤ k_) ∧ k_ ≠ gb518)) (okp := (fun k_ => ((P0_10_ k_ ∨ P0_11_ k_) ∨ w.heap.size ≤ k_) ∧ k_ ≠ gb518)) ?hr ?hp (fun _ hk => hk) ((show ∀ k_, w4.heap.size ≤ k_ → (fun k_ => ((P0_10_ k_ ∨ P0_11_ k_) ∨ w.heap.size ≤ k_) ∧ k_ ≠ gb518) k_ from fun k_ hk => ⟨(.inr (Nat.le_trans (below_size blw) hk)), Kd.freshB (g := gb518) (o := .cells #[.int .i64 a0_0, .int .i64 a0_1, .string a0_2, .int .i64 a0_3, .int .i64 a0_4, .slice A0_5 l0_5.length c0_5, .slice A0_6 l0_6.length c0_6, .slice A0_7 l0_7.length c0_7, .slice A0_8 l0_8.length c0_8, .slice A0_9 l0_9.length c0_9, .slice A0_10 l0_10.length c0_10, .slice A0_11 l0_11.length c0_11] 47 (0, 0)) bkw k_ hk⟩) _ (Nat.le_refl _)) (Below.refl _ _) (Nat.le_refl _) (by simp) ?_; (case hd => rfl); (case hg => rfl); (case hr => exact hrw); (case hp => exact (Reps.none _ _)); intro v520 w5 ho6 hb hg_ hnew_; clear hg_ hnew_; (first | rw [← Ny519.out] at ho6 | (simp only [Int.reduceToNat] at ho6; rw [← Ny519.out] at ho6)); have n0_ := am (Kd.V_elder' (by (with_reducible repeat (first | apply Kd.V_alloc | apply Kd.V_drewN | apply Kd.V_drew)); exact HO0_10.out) (by first | exact Kd.N_base ho6 | exact Kd.S_base ho6 | exact Kd.R_base ho6) hb); have n1_ := am (Kd.V_elder' (by (with_reducible repeat (first | apply Kd.V_alloc | apply Kd.V_drewN | apply Kd.V_drew)); exact HO0_11.out) (by first | exact Kd.N_base ho6 | exact Kd.S_base ho6 | exact Kd.R_base ho6) hb); have n2_ := am (Kd.N_lower ho6 (below_size blw)); have n3_ := am (blk_below (g := gb518) bkw hb); have n4_ := am (below_step blw hb); clear HO0_10; clear HO0_11; clear BK518; clear HB; revert n0_ n1_ n2_ n3_ n4_; intro HO0_10 HO0_11 HO521 BK518 HB; clear hb ho6; obtain ⟨hcz7_0, hcz7_1, hcz7_2, hcz7_3, hcz7_4, hcz7_5, hcz7_6, hcz7_7, hcz7_8, hcz7_9, hcz7_10, hcz7_11⟩ := cls12 BK518.out; obtain ⟨hfz7_0, hfz7_1, hfz7_2, hfz7_3, hfz7_4, hfz7_5, hfz7_6, hfz7_7, hfz7_8, hfz7_9, hfz7_10, hfz7_11⟩ := frz12 BK518.out) | ((with_reducible refine gate_builtin (b := .append) (xs := #[.tmp 9, .tmp 12]) rfl ?_); at_builtin; refine Kd.N_append k29 (w0 := w) w.heap.size rfl (.tmp 9) (.tmp 12) 35 29 (.agg #[(.slice none 0 0)]) 24 rfl Try.underlying35 info29 rfl (by decide) (by omega) v520 y519 (⟨l0_11⟩ : S29) [.slice A0_11 l0_11.length c0_11] (fun k_ => ((P0_10_ k_ ∨ P0_11_ k_) ∨ w.heap.size ≤ k_) ∧ k_ ≠ gb518) (fun k_ => ((fun k_ => ((P0_10_ k_ ∨ P0_11_ k_) ∨ w.heap.size ≤ k_) ∧ k_ ≠ gb518)) k_ ∧ some k_ ≠ (v520 : Value).ownBlock) rfl rfl ?aP (fun _ hk => hk) ?aF ?aO ?aB ?aS ?aL ?_; (case aP => exact (k29_mkF _ _ (⟨l0_11⟩ : S29) (Kd.V_reads' (Kd.V_mono (ok' := (fun k_ => ((fun k_ => ((P0_10_ k_ ∨ P0_11_ k_) ∨ w.heap.size ≤ k_) ∧ k_ ≠ gb518)) k_ ∧ some k_ ≠ (v520 : Value).ownBlock)) (HO0_11.out) (fun k_ hk => ⟨⟨hk.1.1, hk.1.2⟩, hk.2⟩))).2.1 (Kd.V_F (Kd.V_mono (ok' := (fun k_ => ((fun k_ => ((P0_10_ k_ ∨ P0_11_ k_) ∨ w.heap.size ≤ k_) ∧ k_ ≠ gb518)) k_ ∧ some k_ ≠ (v520 : Value).ownBlock)) (HO0_11.out) (fun k_ hk => ⟨⟨hk.1.1, hk.1.2⟩, hk.2⟩))))); (case aB => exact blw); (case aF => exact (fun k_ hk => ⟨(.inr (Nat.le_trans (below_size blw) hk)), Kd.freshB (g := gb518) (o := .cells #[.int .i64 a0_0, .int .i64 a0_1, .string a0_2, .int .i64 a0_3, .int .i64 a0_4, .slice A0_5 l0_5.length c0_5, .slice A0_6 l0_6.length c0_6, .slice A0_7 l0_7.length c0_7, .slice A0_8 l0_8.length c0_8, .slice A0_9 l0_9.length c0_9, .slice A0_10 l0_10.length c0_10, .slice A0_11 l0_11.length c0_11] 47 (0, 0)) bkw k_ hk⟩)); (case aO => exact (by (with_reducible repeat (first | apply Kd.N_alloc | apply Kd.N_drewN | apply Kd.N_drew)); exact HO521.out)); (case aS => exact (below_size blw)); (case aL => have := LMc3.out; omega); intro v523 w8 ho hb hg hat; rw [← Ny522.out] at ho; have n0_ := am (Kd.V_afterv (ok := (fun k_ => ((P0_10_ k_ ∨ P0_11_ k_) ∨ w.heap.size ≤ k_) ∧ k_ ≠ gb518)) (by (with_reducible repeat (first | apply Kd.V_alloc | apply Kd.V_drewN | apply Kd.V_drew)); exact HO0_10.out) hg hat); have n1_ := am (Kd.V_afterv (ok := (fun k_ => ((P0_10_ k_ ∨ P0_11_ k_) ∨ w.heap.size ≤ k_) ∧ k_ ≠ gb518)) (by (with_reducible repeat (first | apply Kd.V_alloc | apply Kd.V_drewN | apply Kd.V_drew)); exact HO0_11.out) hg hat); have n2_ := am (blk_grown (g := gb518) (o := .cells #[.int .i64 a0_0, .int .i64 a0_1, .string a0_2, .int .i64 a0_3, .int .i64 a0_4, .slice A0_5 l0_5.length c0_5, .slice A0_6 l0_6.length c0_6, .slice A0_7 l0_7.length c0_7, .slice A0_8 l0_8.length c0_8, .slice A0_9 l0_9.length c0_9, .slice A0_10 l0_10.length c0_10, .slice A0_11 l0_11.length c0_11] 47 (0, 0)) bkw hg (Kd.N_ne HO521.out BK518.out (by decide))); have n3_ := am (hb); have n4_ := am (ho); clear HO0_10; clear HO0_11; clear BK518; clear HB; clear HO521; revert n0_ n1_ n2_ n3_ n4_; intro HO0_10 HO0_11 BK518 HB HO524; clear ho hb hg hat))
  go_ret
  exact ⟨_, rfw, by (with_reducible repeat (first | apply Kd.N_alloc | apply Kd.N_drewN | apply Kd.N_drew)); exact Kd.N_mono HO524.out (fun _ hk => hk.1), blw⟩
 rw [if_neg c2] at H
 have c2b0 : (a0_0 == 3) = false := beq_eq_false_iff_ne.mpr c2
 have c2b1 : (a0_0 != 3) = true := bne_iff_ne.mpr c2
 have H' := am H
 clear H
 go_enter Try.func16, Try.ntmps16
 go_wp2_with (first | ((with_reducible refine gate_dst (N := 1) rfl ?_); refine box_event ?hg (N := 1) ?hd (cs := #[.int .i64 a0_0, .int .i64 a0_1, .string a0_2, .int .i64 a0_3, .int .i64 a0_4, .slice A0_5 l0_5.length c0_5, .slice A0_6 l0_6.length c0_6, .slice A0_7 l0_7.length c0_7, .slice A0_8 l0_8.length c0_8, .slice A0_9 l0_9.length c0_9, .slice A0_10 l0_10.length c0_10, .slice A0_11 l0_11.length c0_11]) (t := 47) ?hr ?_; (case hd => rfl); (case hg => rfl); (case hr => exact hrw); intro gb518 hg w9 hbox hb; have n0_ := am (Kd.V_below (Kd.V_elderB (by (with_reducible repeat (first | apply Kd.V_alloc | apply Kd.V_drewN | apply Kd.V_drew)); exact HO0_10.out) gb518 (Nat.le_of_eq hg.symm)) hb); have n1_ := am (Kd.V_below (Kd.V_elderB (by (with_reducible repeat (first | apply Kd.V_alloc | apply Kd.V_drewN | apply Kd.V_drew)); exact HO0_11.out) gb518 (Nat.le_of_eq hg.symm)) hb); have n2_ := am (below_step blw hb); have n3_ := am (hbox); have n4_ := am ((by rw [hg]; exact (below_size blw) : w.heap.size ≤ gb518)); have n5_ := n4_; clear HO0_10; clear HO0_11; clear HB; revert n0_ n1_ n2_ n3_ n4_ n5_; intro HO0_10 HO0_11 HB BK518 GW518 GE518; clear hb hbox hg) | ((with_reducible refine gate_dst (N := 5) rfl ?_); refine Kd.N_lit k29 _ 29 ?hg (N' := 5) ?hd (xs := ([] : List (S29))) (inner := []) (ok := (fun k_ => ((P0_10_ k_ ∨ P0_11_ k_) ∨ w.heap.size ≤ k_) ∧ k_ ≠ gb518)) (okp := (fun k_ => ((P0_10_ k_ ∨ P0_11_ k_) ∨ w.heap.size ≤ k_) ∧ k_ ≠ gb518)) ?hr ?hp (fun _ hk => hk) ((show ∀ k_, w9.heap.size ≤ k_ → (fun k_ => ((P0_10_ k_ ∨ P0_11_ k_) ∨ w.heap.size ≤ k_) ∧ k_ ≠ gb518) k_ from fun k_ hk => ⟨(.inr (Nat.le_trans (below_size blw) hk)), Kd.freshB (g := gb518) (o := .cells #[.int .i64 a0_0, .int .i64 a0_1, .string a0_2, .int .i64 a0_3, .int .i64 a0_4, .slice A0_5 l0_5.length c0_5, .slice A0_6 l0_6.length c0_6, .slice A0_7 l0_7.length c0_7, .slice A0_8 l0_8.length c0_8, .slice A0_9 l0_9.length c0_9, .slice A0_10 l0_10.length c0_10, .slice A0_11 l0_11.length c0_11] 47 (0, 0)) bkw k_ hk⟩) _ (Nat.le_refl _)) (Below.refl _ _) (Nat.le_refl _) (by simp) ?_; (case hd => rfl); (case hg => rfl); (case hr => exact hrw); (case hp => exact (Reps.none _ _)); intro v520 w10 ho11 hb hg_ hnew_; clear hg_ hnew_; (first | rw [← Ny519.out] at ho11 | (simp only [Int.reduceToNat] at ho11; rw [← Ny519.out] at ho11)); have n0_ := am (Kd.V_elder' (by (with_reducible repeat (first | apply Kd.V_alloc | apply Kd.V_drewN | apply Kd.V_drew)); exact HO0_10.out) (by first | exact Kd.N_base ho11 | exact Kd.S_base ho11 | exact Kd.R_base ho11) hb); have n1_ := am (Kd.V_elder' (by (with_reducible repeat (first | apply Kd.V_alloc | apply Kd.V_drewN | apply Kd.V_drew)); exact HO0_11.out) (by first | exact Kd.N_base ho11 | exact Kd.S_base ho11 | exact Kd.R_base ho11) hb); have n2_ := am (Kd.N_lower ho11 (below_size blw)); have n3_ := am (blk_below (g := gb518) bkw hb); have n4_ := am (below_step blw hb); clear HO0_10; clear HO0_11; clear BK518; clear HB; revert n0_ n1_ n2_ n3_ n4_; intro HO0_10 HO0_11 HO521 BK518 HB; clear hb ho11; obtain ⟨hcz12_0, hcz12_1, hcz12_2, hcz12_3, hcz12_4, hcz12_5, hcz12_6, hcz12_7, hcz12_8, hcz12_9, hcz12_10, hcz12_11⟩ := cls12 BK518.out; obtain ⟨hfz12_0, hfz12_1, hfz12_2, hfz12_3, hfz12_4, hfz12_5, hfz12_6, hfz12_7, hfz12_8, hfz12_9, hfz12_10, hfz12_11⟩ := frz12 BK518.out))
 go_loopg [3, 4] k (fun kq v3 v4 w' => ∃ (x3_1 : List (S29)) (x4_1 : Int), v4 = .int .i64 x4_1 ∧ Aside0 (spec_l13Nested.l0 kq x3_1 x4_1 a0_0 a0_1 a0_2 a0_3 a0_4 l0_5 l0_6 l0_7 l0_8 l0_9 l0_10 l0_11 = some r) ∧ Aside0 (kq ≤ k) ∧ Aside0 (Kd.N k29 29 w' w.heap.size (fun k_ => ((P0_10_ k_ ∨ P0_11_ k_) ∨ w.heap.size ≤ k_) ∧ k_ ≠ gb518) v3 x3_1) ∧ Aside0 (Kd.V k47 47 w' w.heap.size (fun k_ => ((P0_10_ k_ ∨ P0_11_ k_) ∨ w.heap.size ≤ k_) ∧ some k_ ≠ (v3 : Value).ownBlock ∧ k_ ≠ gb518) (.slice A0_10 l0_10.length c0_10) l0_10) ∧ Aside0 (Kd.V k49 49 w' w.heap.size (fun k_ => ((P0_10_ k_ ∨ P0_11_ k_) ∨ w.heap.size ≤ k_) ∧ some k_ ≠ (v3 : Value).ownBlock ∧ k_ ≠ gb518) (.slice A0_11 l0_11.length c0_11) l0_11) ∧ Aside0 (w'.heap[gb518]? = some (.cells #[.int .i64 a0_0, .int .i64 a0_1, .string a0_2, .int .i64 a0_3, .int .i64 a0_4, (.slice A0_5 l0_5.length c0_5), (.slice A0_6 l0_6.length c0_6), (.slice A0_7 l0_7.length c0_7), (.slice A0_8 l0_8.length c0_8), (.slice A0_9 l0_9.length c0_9), (.slice A0_10 l0_10.length c0_10), (.slice A0_11 l0_11.length c0_11)] 47 (0, 0))) ∧ Aside0 (Below w.heap.size w w'))
 case atStart => exact ⟨(y519), (0), rfs, H', ⟨Nat.le_refl _⟩, ⟨by (with_reducible repeat (first | apply Kd.N_alloc | apply Kd.N_drewN | apply Kd.N_drew)); exact HO521.out⟩, ⟨by (with_reducible repeat (first | apply Kd.V_alloc | apply Kd.V_drewN | apply Kd.V_drew)); exact Kd.V_mono HO0_10.out (fun _ hk => ⟨hk.1.1, ⟨hk.2, hk.1.2⟩⟩)⟩, ⟨by (with_reducible repeat (first | apply Kd.V_alloc | apply Kd.V_drewN | apply Kd.V_drew)); exact Kd.V_mono HO0_11.out (fun _ hk => ⟨hk.1.1, ⟨hk.2, hk.1.2⟩⟩)⟩, ⟨bkw⟩, ⟨blw⟩⟩
 case round =>
  clear H'
  (try clear c1); (try clear c2); (try clear c2b0); (try clear c2b1); (try clear p2); (try clear c3); (try clear hcz12_0 hcz12_1 hcz12_10 hcz12_11 hcz12_2 hcz12_3 hcz12_4 hcz12_5 hcz12_6 hcz12_7 hcz12_8 hcz12_9); (try clear hcz7_0 hcz7_1 hcz7_10 hcz7_11 hcz7_2 hcz7_3 hcz7_4 hcz7_5 hcz7_6 hcz7_7 hcz7_8 hcz7_9); (try clear hfz12_0 hfz12_1 hfz12_10 hfz12_11 hfz12_2 hfz12_3 hfz12_4 hfz12_5 hfz12_6 hfz12_7 hfz12_8 hfz12_9); (try clear hfz7_0 hfz7_1 hfz7_10 hfz7_11 hfz7_2 hfz7_3 hfz7_4 hfz7_5 hfz7_6 hfz7_7 hfz7_8 hfz7_9)
  obtain ⟨x3_1, x4_1, rfl, HA, HK1, HO_3, HO_519010, HO_519011, BK518, HB⟩ := hrel
  cases gk with
  | zero => exact absurd HA.out (by simp [spec_l13Nested.l0])
  | succ k1 =>
   have H := HA.out
   clear HA
   simp only [spec_l13Nested.l0] at H
   by_cases c13 : x4_1 < (l0_10.length : Int)
   case neg =>
    rw [if_neg c13] at H
    have c13b0 : decide (x4_1 < (l0_10.length : Int)) = false := decide_eq_false c13
    clear c13
    obtain rfl := Option.some.inj H
    obtain ⟨hcz21_0, hcz21_1, hcz21_2, hcz21_3, hcz21_4, hcz21_5, hcz21_6, hcz21_7, hcz21_8, hcz21_9, hcz21_10, hcz21_11⟩ := cls12 BK518.out
    obtain ⟨hfz21_0, hfz21_1, hfz21_2, hfz21_3, hfz21_4, hfz21_5, hfz21_6, hfz21_7, hfz21_8, hfz21_9, hfz21_10, hfz21_11⟩ := frz12 BK518.out
    go_wp2
    go_ret
    exact ⟨_, rfw, by (with_reducible repeat (first | apply Kd.N_alloc | apply Kd.N_drewN | apply Kd.N_drew)); exact Kd.N_mono HO_3.out (fun _ hk => hk.1), blw⟩
   rw [if_pos c13] at H
   have c13b0 : decide (x4_1 < (l0_10.length : Int)) = true := decide_eq_true c13
   clear c13
   by_cases c14 : 0 ≤ x4_1
   case neg =>
    rw [if_neg c14] at H
    exact absurd H (by simp)
   rw [if_pos c14] at H
   have c14b0 : decide (0 ≤ x4_1) = true := decide_eq_true c14
   clear c14
   replace H := Option.bind_eq_some_iff.mp H
   obtain ⟨t526, A150, H⟩ := H
   replace H : (if x3_1.length + t526.length < 5864062014805 then (spec_l13Nested.l0 k1 (x3_1 ++ t526) (wrap64 (x4_1 + 1)) a0_0 a0_1 a0_2 a0_3 a0_4 l0_5 l0_6 l0_7 l0_8 l0_9 l0_10 l0_11) else (none)) = some r := H
   have A15 := am A150
   clear A150
   by_cases c16 : x3_1.length + t526.length < 5864062014805
   case neg =>
    rw [if_neg c16] at H
    exact absurd H (by simp)
   rw [if_pos c16] at H
   have LMc16 := am c16
   clear c16
   obtain ⟨y529, hy529⟩ : ∃ y_ : List (S29), y_ = (x3_1 ++ t526) := ⟨_, rfl⟩
   replace H : (spec_l13Nested.l0 k1 y529 (wrap64 (x4_1 + 1)) a0_0 a0_1 a0_2 a0_3 a0_4 l0_5 l0_6 l0_7 l0_8 l0_9 l0_10 l0_11) = some r := by first | (rw [hy529]; with_reducible exact H) | (have H2_ := (Option.bind_some _ _).symm.trans H; rw [hy529]; with_reducible exact H2_) | (have H2_ := (Option.bind_some _ _).symm.trans H; with_reducible exact H2_) | with_reducible exact H | (rw [hy529]; exact H) | exact H
   have Ny529 := am hy529
   clear hy529
   have H' := am H
   clear H
   obtain ⟨hcz17_0, hcz17_1, hcz17_2, hcz17_3, hcz17_4, hcz17_5, hcz17_6, hcz17_7, hcz17_8, hcz17_9, hcz17_10, hcz17_11⟩ := cls12 BK518.out
   obtain ⟨hfz17_0, hfz17_1, hfz17_2, hfz17_3, hfz17_4, hfz17_5, hfz17_6, hfz17_7, hfz17_8, hfz17_9, hfz17_10, hfz17_11⟩ := frz12 BK518.out
   have p525 : 0 ≤ (x4_1 : Int) := of_decide_eq_true asw
   have q525 : x4_1 < (l0_10.length : Int) := of_decide_eq_true asw
   obtain ⟨ad525, A525_5, c525_5, A525_6, c525_6, A525_7, c525_7, A525_8, c525_8, A525_9, c525_9, A525_10, c525_10, A525_11, c525_11, e525, hx525_0, hx525_1, hx525_2, hx525_3, hx525_4, hx525_5, hx525_6, hx525_7, hx525_8, hx525_9, hx525_10, hx525_11, hl525_5, hi525_5, hl525_6, hi525_6, hl525_7, hi525_7, hl525_8, hi525_8, hl525_9, hi525_9, hl525_10, hi525_10, hl525_11, hi525_11⟩ := at_T47 (Kd.V_reads' HO_519010.out).2.2 x4_1 p525 q525
   cases e525
   obtain ⟨ce525, hce525, hMe525, hcc525⟩ := Kd.V_get HO_519010.out z47 x4_1 p525 (by first | exact q525 | exact of_decide_eq_true asw | (have e_ := (Kd.V_reads' HO_519010.out).1; omega))
   obtain ⟨ua525_5, uc525_5, ua525_6, uc525_6, ua525_7, uc525_7, ua525_8, uc525_8, ua525_9, uc525_9, ua525_10, uc525_10, ua525_11, uc525_11, rfl, ul525_5, ge525_5, ul525_6, ge525_6, ul525_7, ge525_7, ul525_8, ge525_8, ul525_9, ge525_9, ul525_10, ge525_10, ul525_11, ge525_11⟩ := k47_openF hMe525
   have hv525_5 := hcc525 5 _ rfl
   rw [add_field _ _ 5 (by omega)] at hv525_5
   replace hv525_5 := Option.some.inj (hv525_5.symm.trans hx525_5)
   injection hv525_5 with hva_ hvn_ hvc_
   rw [hva_] at ge525_5
   rw [hvc_] at ul525_5
   have HL525_5 := am (show Kd.V Kd.string 9 _ w.heap.size _ _ ((rd_T47 l0_10 x4_1).f1.f3.f1) from Kd.V_mk ul525_5 ge525_5)
   clear hva_ hvn_ hvc_ ge525_5 ul525_5
   have hv525_6 := hcc525 6 _ rfl
   rw [add_field _ _ 6 (by omega)] at hv525_6
   replace hv525_6 := Option.some.inj (hv525_6.symm.trans hx525_6)
   injection hv525_6 with hva_ hvn_ hvc_
   rw [hva_] at ge525_6
   rw [hvc_] at ul525_6
   have HL525_6 := am (show Kd.V k41 41 _ w.heap.size _ _ ((rd_T47 l0_10 x4_1).f1.f3.f2) from Kd.V_mk ul525_6 ge525_6)
   clear hva_ hvn_ hvc_ ge525_6 ul525_6
   have hv525_7 := hcc525 7 _ rfl
   rw [add_field _ _ 7 (by omega)] at hv525_7
   replace hv525_7 := Option.some.inj (hv525_7.symm.trans hx525_7)
   injection hv525_7 with hva_ hvn_ hvc_
   rw [hva_] at ge525_7
   rw [hvc_] at ul525_7
   have HL525_7 := am (show Kd.V Kd.string 9 _ w.heap.size _ _ ((rd_T47 l0_10 x4_1).f1.f4) from Kd.V_mk ul525_7 ge525_7)
   clear hva_ hvn_ hvc_ ge525_7 ul525_7
   have hv525_8 := hcc525 8 _ rfl
   rw [add_field _ _ 8 (by omega)] at hv525_8
   replace hv525_8 := Option.some.inj (hv525_8.symm.trans hx525_8)
   injection hv525_8 with hva_ hvn_ hvc_
   rw [hva_] at ge525_8
   rw [hvc_] at ul525_8
   have HL525_8 := am (show Kd.V k44 44 _ w.heap.size _ _ ((rd_T47 l0_10 x4_1).f1.f5) from Kd.V_mk ul525_8 ge525_8)
   clear hva_ hvn_ hvc_ ge525_8 ul525_8
   have hv525_9 := hcc525 9 _ rfl
   rw [add_field _ _ 9 (by omega)] at hv525_9
   replace hv525_9 := Option.some.inj (hv525_9.symm.trans hx525_9)
   injection hv525_9 with hva_ hvn_ hvc_
   rw [hva_] at ge525_9
   rw [hvc_] at ul525_9
   have HL525_9 := am (show Kd.V Kd.string 9 _ w.heap.size _ _ ((rd_T47 l0_10 x4_1).f2) from Kd.V_mk ul525_9 ge525_9)
   clear hva_ hvn_ hvc_ ge525_9 ul525_9
   have hv525_10 := hcc525 10 _ rfl
   rw [add_field _ _ 10 (by omega)] at hv525_10
   replace hv525_10 := Option.some.inj (hv525_10.symm.trans hx525_10)
   injection hv525_10 with hva_ hvn_ hvc_
   rw [hva_] at ge525_10
   rw [hvc_] at ul525_10
   have HL525_10 := am (show Kd.V k47 47 _ w.heap.size _ _ ((rd_T47 l0_10 x4_1).f3) from Kd.V_mk ul525_10 ge525_10)
   clear hva_ hvn_ hvc_ ge525_10 ul525_10
   have hv525_11 := hcc525 11 _ rfl
   rw [add_field _ _ 11 (by omega)] at hv525_11
   replace hv525_11 := Option.some.inj (hv525_11.symm.trans hx525_11)
   injection hv525_11 with hva_ hvn_ hvc_
   rw [hva_] at ge525_11
   rw [hvc_] at ul525_11
   have HL525_11 := am (show Kd.V k49 49 _ w.heap.size _ _ ((rd_T47 l0_10 x4_1).f4.f0) from Kd.V_mk ul525_11 ge525_11)
   clear hva_ hvn_ hvc_ ge525_11 ul525_11
   clear hcc525 hce525
   have HR525_5 := am hi525_5
   have HC525_5 := am hl525_5
   clear hi525_5 hl525_5
   have HR525_6 := am hi525_6
   have HC525_6 := am hl525_6
   clear hi525_6 hl525_6
   have HR525_7 := am hi525_7
   have HC525_7 := am hl525_7
   clear hi525_7 hl525_7
   have HR525_8 := am hi525_8
   have HC525_8 := am hl525_8
   clear hi525_8 hl525_8
   have HR525_9 := am hi525_9
   have HC525_9 := am hl525_9
   clear hi525_9 hl525_9
   have HR525_10 := am hi525_10
   have HC525_10 := am hl525_10
   clear hi525_10 hl525_10
   have HR525_11 := am hi525_11
   have HC525_11 := am hl525_11
   clear hi525_11 hl525_11
   replace p525 := eq_true p525
   replace q525 := eq_true q525
   go_wp2_with (first | ((with_reducible refine gate_callee (f := 16) rfl ?_); refine goesL_ (some 27) rfl rfl Try.func16 kr rfl #[.agg #[.int .i64 ((rd_T47 l0_10 x4_1).f0), .int .i64 ((rd_T47 l0_10 x4_1).f1.f0), .string ((rd_T47 l0_10 x4_1).f1.f1), .int .i64 ((rd_T47 l0_10 x4_1).f1.f2), .int .i64 ((rd_T47 l0_10 x4_1).f1.f3.f0), .slice A525_5 ((rd_T47 l0_10 x4_1).f1.f3.f1).length c525_5, .slice A525_6 ((rd_T47 l0_10 x4_1).f1.f3.f2).length c525_6, .slice A525_7 ((rd_T47 l0_10 x4_1).f1.f4).length c525_7, .slice A525_8 ((rd_T47 l0_10 x4_1).f1.f5).length c525_8, .slice A525_9 ((rd_T47 l0_10 x4_1).f2).length c525_9, .slice A525_10 ((rd_T47 l0_10 x4_1).f3).length c525_10, .slice A525_11 ((rd_T47 l0_10 x4_1).f4.f0).length c525_11]] rfl mpw ?_; (with_reducible refine (ih k1 (by have := HK1.out; omega) ((rd_T47 l0_10 x4_1).f0) ((rd_T47 l0_10 x4_1).f1.f0) ((rd_T47 l0_10 x4_1).f1.f1) ((rd_T47 l0_10 x4_1).f1.f2) ((rd_T47 l0_10 x4_1).f1.f3.f0) _ _ ((rd_T47 l0_10 x4_1).f1.f3.f1) _ _ ((rd_T47 l0_10 x4_1).f1.f3.f2) _ _ ((rd_T47 l0_10 x4_1).f1.f4) _ _ ((rd_T47 l0_10 x4_1).f1.f5) _ _ ((rd_T47 l0_10 x4_1).f2) (fun k_ => (((P0_10_ k_ ∨ P0_11_ k_) ∨ w.heap.size ≤ k_) ∧ (some k_ ≠ (u3 : Value).ownBlock ∧ k_ ≠ gb518))) _ _ ((rd_T47 l0_10 x4_1).f3) (fun k_ => (((P0_10_ k_ ∨ P0_11_ k_) ∨ w.heap.size ≤ k_) ∧ (some k_ ≠ (u3 : Value).ownBlock ∧ k_ ≠ gb518))) _ _ ((rd_T47 l0_10 x4_1).f4.f0) t526 _ ?side1 ?side2 ?side3 ?side4 ?side5 ?side6 ?side7 ?side8 ?side9 ?side10 ?side11 ?side12 A15.out).mono ?_); (case side1 => repeat (first | exact (by repeat (first | (with_reducible exact HR525_5.out) | (with_reducible refine Kd.C_alloc ?_ _) | (with_reducible refine Kd.C_drewN ?_ _) | (with_reducible refine Kd.C_drew ?_) | exact HR525_5.out)) | (with_reducible refine Kd.C_alloc ?_ _) | (with_reducible refine Kd.C_drewN ?_ _) | (with_reducible refine Kd.C_drew ?_))); (case side2 => exact HC525_5.out); (case side3 => repeat (first | exact (by repeat (first | (with_reducible exact HR525_6.out) | (with_reducible refine Kd.C_alloc ?_ _) | (with_reducible refine Kd.C_drewN ?_ _) | (with_reducible refine Kd.C_drew ?_) | exact HR525_6.out)) | (with_reducible refine Kd.C_alloc ?_ _) | (with_reducible refine Kd.C_drewN ?_ _) | (with_reducible refine Kd.C_drew ?_))); (case side4 => exact HC525_6.out); (case side5 => repeat (first | exact (by repeat (first | (with_reducible exact HR525_7.out) | (with_reducible refine Kd.C_alloc ?_ _) | (with_reducible refine Kd.C_drewN ?_ _) | (with_reducible refine Kd.C_drew ?_) | exact HR525_7.out)) | (with_reducible refine Kd.C_alloc ?_ _) | (with_reducible refine Kd.C_drewN ?_ _) | (with_reducible refine Kd.C_drew ?_))); (case side6 => exact HC525_7.out); (case side7 => repeat (first | exact (by repeat (first | (with_reducible exact HR525_8.out) | (with_reducible refine Kd.C_alloc ?_ _) | (with_reducible refine Kd.C_drewN ?_ _) | (with_reducible refine Kd.C_drew ?_) | exact HR525_8.out)) | (with_reducible refine Kd.C_alloc ?_ _) | (with_reducible refine Kd.C_drewN ?_ _) | (with_reducible refine Kd.C_drew ?_))); (case side8 => exact HC525_8.out); (case side9 => repeat (first | exact (by repeat (first | (with_reducible exact HR525_9.out) | (with_reducible refine Kd.C_alloc ?_ _) | (with_reducible refine Kd.C_drewN ?_ _) | (with_reducible refine Kd.C_drew ?_) | exact HR525_9.out)) | (with_reducible refine Kd.C_alloc ?_ _) | (with_reducible refine Kd.C_drewN ?_ _) | (with_reducible refine Kd.C_drew ?_))); (case side10 => exact HC525_9.out); (case side11 => exact HL525_10.out); (case side12 => exact HL525_11.out); rintro e w18 ⟨v527, rfl, ho0, hb⟩; refine ⟨_, rfl, ?_⟩; have n0_ := am (Kd.N_elder' (by (with_reducible repeat (first | apply Kd.N_alloc | apply Kd.N_drewN | apply Kd.N_drew)); exact HO_3.out) (by first | exact Kd.N_base ho0 | exact Kd.S_base ho0 | exact Kd.R_base ho0) hb); have n1_ := am (Kd.V_elder' (by (with_reducible repeat (first | apply Kd.V_alloc | apply Kd.V_drewN | apply Kd.V_drew)); exact HO_519010.out) (by first | exact Kd.N_base ho0 | exact Kd.S_base ho0 | exact Kd.R_base ho0) hb); have n2_ := am (Kd.V_elder' (by (with_reducible repeat (first | apply Kd.V_alloc | apply Kd.V_drewN | apply Kd.V_drew)); exact HO_519011.out) (by first | exact Kd.N_base ho0 | exact Kd.S_base ho0 | exact Kd.R_base ho0) hb); have n3_ := am (Kd.V_elder' (by (with_reducible repeat (first | apply Kd.V_alloc | apply Kd.V_drewN | apply Kd.V_drew)); exact HL525_5.out) (by first | exact Kd.N_base ho0 | exact Kd.S_base ho0 | exact Kd.R_base ho0) hb); have n4_ := am (Kd.V_elder' (by (with_reducible repeat (first | apply Kd.V_alloc | apply Kd.V_drewN | apply Kd.V_drew)); exact HL525_6.out) (by first | exact Kd.N_base ho0 | exact Kd.S_base ho0 | exact Kd.R_base ho0) hb); have n5_ := am (Kd.V_elder' (by (with_reducible repeat (first | apply Kd.V_alloc | apply Kd.V_drewN | apply Kd.V_drew)); exact HL525_7.out) (by first | exact Kd.N_base ho0 | exact Kd.S_base ho0 | exact Kd.R_base ho0) hb); have n6_ := am (Kd.V_elder' (by (with_reducible repeat (first | apply Kd.V_alloc | apply Kd.V_drewN | apply Kd.V_drew)); exact HL525_8.out) (by first | exact Kd.N_base ho0 | exact Kd.S_base ho0 | exact Kd.R_base ho0) hb); have n7_ := am (Kd.V_elder' (by (with_reducible repeat (first | apply Kd.V_alloc | apply Kd.V_drewN | apply Kd.V_drew)); exact HL525_9.out) (by first | exact Kd.N_base ho0 | exact Kd.S_base ho0 | exact Kd.R_base ho0) hb); have n8_ := am (Kd.V_elder' (by (with_reducible repeat (first | apply Kd.V_alloc | apply Kd.V_drewN | apply Kd.V_drew)); exact HL525_10.out) (by first | exact Kd.N_base ho0 | exact Kd.S_base ho0 | exact Kd.R_base ho0) hb); have n9_ := am (Kd.V_elder' (by (with_reducible repeat (first | apply Kd.V_alloc | apply Kd.V_drewN | apply Kd.V_drew)); exact HL525_11.out) (by first | exact Kd.N_base ho0 | exact Kd.S_base ho0 | exact Kd.R_base ho0) hb); have n10_ := am (Kd.N_lower (Kd.N_mono (ok' := fun k_ => ((P0_10_ k_ ∨ P0_11_ k_) ∨ w.heap.size ≤ k_) ∧ some k_ ≠ (u3 : Value).ownBlock ∧ k_ ≠ gb518) ho0 (fun k_ hk_ => ⟨Or.elim hk_ (fun hs_ => Or.elim hs_ (fun hs_ => hs_.1) (fun hs_ => hs_.1)) (fun hn_ => (.inr (Nat.le_trans (below_size blw) hn_))), Or.elim hk_ (fun hs_ => Or.elim hs_ (fun hs_ => hs_.2.1) (fun hs_ => hs_.2.1)) (fun hn_ => (Kd.fresh' (Kd.N_lt (by (with_reducible repeat (first | apply Kd.N_alloc | apply Kd.N_drewN | apply Kd.N_drew)); exact HO_3.out)) k_ hn_)), Or.elim hk_ (fun hs_ => Or.elim hs_ (fun hs_ => hs_.2.2) (fun hs_ => hs_.2.2)) (fun hn_ => (Kd.freshB (g := gb518) (o := .cells #[.int .i64 a0_0, .int .i64 a0_1, .string a0_2, .int .i64 a0_3, .int .i64 a0_4, .slice A0_5 l0_5.length c0_5, .slice A0_6 l0_6.length c0_6, .slice A0_7 l0_7.length c0_7, .slice A0_8 l0_8.length c0_8, .slice A0_9 l0_9.length c0_9, .slice (some ad525) l0_10.length c0_10, .slice A0_11 l0_11.length c0_11] 47 (0, 0)) bkw k_ hn_))⟩)) (below_size blw)); have n11_ := am (blk_below (g := gb518) bkw hb); have n12_ := am (Kd.C_below (by repeat (first | (with_reducible exact HR525_5.out) | (with_reducible refine Kd.C_alloc ?_ _) | (with_reducible refine Kd.C_drewN ?_ _) | (with_reducible refine Kd.C_drew ?_) | exact HR525_5.out)) hb); have n13_ := am (Kd.C_below (by repeat (first | (with_reducible exact HR525_6.out) | (with_reducible refine Kd.C_alloc ?_ _) | (with_reducible refine Kd.C_drewN ?_ _) | (with_reducible refine Kd.C_drew ?_) | exact HR525_6.out)) hb); have n14_ := am (Kd.C_below (by repeat (first | (with_reducible exact HR525_7.out) | (with_reducible refine Kd.C_alloc ?_ _) | (with_reducible refine Kd.C_drewN ?_ _) | (with_reducible refine Kd.C_drew ?_) | exact HR525_7.out)) hb); have n15_ := am (Kd.C_below (by repeat (first | (with_reducible exact HR525_8.out) | (with_reducible refine Kd.C_alloc ?_ _) | (with_reducible refine Kd.C_drewN ?_ _) | (with_reducible refine Kd.C_drew ?_) | exact HR525_8.out)) hb); have n16_ := am (Kd.C_below (by repeat (first | (with_reducible exact HR525_9.out) | (with_reducible refine Kd.C_alloc ?_ _) | (with_reducible refine Kd.C_drewN ?_ _) | (with_reducible refine Kd.C_drew ?_) | exact HR525_9.out)) hb); have n17_ := am (Kd.C_below (by repeat (first | (with_reducible exact HR525_10.out) | (with_reducible refine Kd.C_alloc ?_ _) | (with_reducible refine Kd.C_drewN ?_ _) | (with_reducible refine Kd.C_drew ?_) | exact HR525_10.out)) hb); have n18_ := am (Kd.C_below (by repeat (first | (with_reducible exact HR525_11.out) | (with_reducible refine Kd.C_alloc ?_ _) | (with_reducible refine Kd.C_drewN ?_ _) | (with_reducible refine Kd.C_drew ?_) | exact HR525_11.out)) hb); have n19_ := am (below_step blw hb); clear HO_3; clear HO_519010; clear HO_519011; clear HL525_5; clear HL525_6; clear HL525_7; clear HL525_8; clear HL525_9; clear HL525_10; clear HL525_11; clear BK518; clear HR525_5; clear HR525_6; clear HR525_7; clear HR525_8; clear HR525_9; clear HR525_10; clear HR525_11; clear HB; revert n0_ n1_ n2_ n3_ n4_ n5_ n6_ n7_ n8_ n9_ n10_ n11_ n12_ n13_ n14_ n15_ n16_ n17_ n18_ n19_; intro HO_3 HO_519010 HO_519011 HL525_5 HL525_6 HL525_7 HL525_8 HL525_9 HL525_10 HL525_11 HO528 BK518 HR525_5 HR525_6 HR525_7 HR525_8 HR525_9 HR525_10 HR525_11 HB; (try clear hb); (try clear hb2); (try clear hk); (try clear hi); (try clear ho0); obtain ⟨Ao20, co20, eo20⟩ := Kd.N_slice HO528.out; subst eo20) | ((with_reducible refine gate_builtin (b := .append) (xs := #[.tmp 21, .tmp 27]) rfl ?_); at_builtin; refine Kd.N_append_rows k29 (w0 := w) w.heap.size rfl (.tmp 21) (.tmp 27) 35 29 (.agg #[(.slice none 0 0)]) 24 rfl Try.underlying35 info29 rfl (by decide) (by omega) u3 x3_1 t526 _ _ _ (fun k_ => ((P0_10_ k_ ∨ P0_11_ k_) ∨ w.heap.size ≤ k_) ∧ k_ ≠ gb518) (fun k_ => ((fun k_ => ((P0_10_ k_ ∨ P0_11_ k_) ∨ w.heap.size ≤ k_) ∧ k_ ≠ gb518)) k_ ∧ some k_ ≠ (u3 : Value).ownBlock) rfl rfl ?aO ?aR (fun _ hk => hk) ?aF ?aB ?aS ?aL ?_; (case aR => exact (by skip; exact Kd.N_F (Kd.N_mono (ok' := (fun k_ => ((fun k_ => ((P0_10_ k_ ∨ P0_11_ k_) ∨ w.heap.size ≤ k_) ∧ k_ ≠ gb518)) k_ ∧ some k_ ≠ (u3 : Value).ownBlock)) (HO528.out) (fun k_ hk => ⟨⟨hk.1, hk.2.2⟩, hk.2.1⟩)))); (case aB => exact blw); (case aF => exact (fun k_ hk => ⟨(.inr (Nat.le_trans (below_size blw) hk)), Kd.freshB (g := gb518) (o := .cells #[.int .i64 a0_0, .int .i64 a0_1, .string a0_2, .int .i64 a0_3, .int .i64 a0_4, .slice A0_5 l0_5.length c0_5, .slice A0_6 l0_6.length c0_6, .slice A0_7 l0_7.length c0_7, .slice A0_8 l0_8.length c0_8, .slice A0_9 l0_9.length c0_9, .slice (some ad525) l0_10.length c0_10, .slice A0_11 l0_11.length c0_11] 47 (0, 0)) bkw k_ hk⟩)); (case aO => exact (by (with_reducible repeat (first | apply Kd.N_alloc | apply Kd.N_drewN | apply Kd.N_drew)); exact Kd.N_mono HO_3.out (fun _ hk => ⟨hk.1.1, hk.1.2⟩))); (case aS => exact (below_size blw)); (case aL => have := LMc16.out; omega); intro v530 w19 ho hb hg hat; rw [← Ny529.out] at ho; have n0_ := am (Kd.V_afterv (ok := (fun k_ => ((P0_10_ k_ ∨ P0_11_ k_) ∨ w.heap.size ≤ k_) ∧ some k_ ≠ (.slice Ao20 t526.length co20 : Value).ownBlock ∧ k_ ≠ gb518)) (by (with_reducible repeat (first | apply Kd.V_alloc | apply Kd.V_drewN | apply Kd.V_drew)); exact Kd.V_mono HO_519010.out (fun _ hk => ⟨⟨hk.1.1, ⟨hk.2, hk.1.2.2⟩⟩, hk.1.2.1⟩)) hg hat); have n1_ := am (Kd.V_afterv (ok := (fun k_ => ((P0_10_ k_ ∨ P0_11_ k_) ∨ w.heap.size ≤ k_) ∧ some k_ ≠ (.slice Ao20 t526.length co20 : Value).ownBlock ∧ k_ ≠ gb518)) (by (with_reducible repeat (first | apply Kd.V_alloc | apply Kd.V_drewN | apply Kd.V_drew)); exact Kd.V_mono HO_519011.out (fun _ hk => ⟨⟨hk.1.1, ⟨hk.2, hk.1.2.2⟩⟩, hk.1.2.1⟩)) hg hat); have n2_ := am (blk_grown (g := gb518) (o := .cells #[.int .i64 a0_0, .int .i64 a0_1, .string a0_2, .int .i64 a0_3, .int .i64 a0_4, .slice A0_5 l0_5.length c0_5, .slice A0_6 l0_6.length c0_6, .slice A0_7 l0_7.length c0_7, .slice A0_8 l0_8.length c0_8, .slice A0_9 l0_9.length c0_9, .slice (some ad525) l0_10.length c0_10, .slice A0_11 l0_11.length c0_11] 47 (0, 0)) bkw hg (Kd.N_ne HO_3.out BK518.out (by decide))); have n3_ := am (Kd.V_afterv (ok := (fun k_ => ((P0_10_ k_ ∨ P0_11_ k_) ∨ w.heap.size ≤ k_) ∧ some k_ ≠ (.slice Ao20 t526.length co20 : Value).ownBlock ∧ k_ ≠ gb518)) (by (with_reducible repeat (first | apply Kd.V_alloc | apply Kd.V_drewN | apply Kd.V_drew)); exact Kd.V_mono HL525_5.out (fun _ hk => ⟨⟨hk.1.1, ⟨hk.2, hk.1.2.2⟩⟩, hk.1.2.1⟩)) hg hat); have n4_ := am (Kd.V_afterv (ok := (fun k_ => ((P0_10_ k_ ∨ P0_11_ k_) ∨ w.heap.size ≤ k_) ∧ some k_ ≠ (.slice Ao20 t526.length co20 : Value).ownBlock ∧ k_ ≠ gb518)) (by (with_reducible repeat (first | apply Kd.V_alloc | apply Kd.V_drewN | apply Kd.V_drew)); exact Kd.V_mono HL525_6.out (fun _ hk => ⟨⟨hk.1.1, ⟨hk.2, hk.1.2.2⟩⟩, hk.1.2.1⟩)) hg hat); have n5_ := am (Kd.V_afterv (ok := (fun k_ => ((P0_10_ k_ ∨ P0_11_ k_) ∨ w.heap.size ≤ k_) ∧ some k_ ≠ (.slice Ao20 t526.length co20 : Value).ownBlock ∧ k_ ≠ gb518)) (by (with_reducible repeat (first | apply Kd.V_alloc | apply Kd.V_drewN | apply Kd.V_drew)); exact Kd.V_mono HL525_7.out (fun _ hk => ⟨⟨hk.1.1, ⟨hk.2, hk.1.2.2⟩⟩, hk.1.2.1⟩)) hg hat); have n6_ := am (Kd.V_afterv (ok := (fun k_ => ((P0_10_ k_ ∨ P0_11_ k_) ∨ w.heap.size ≤ k_) ∧ some k_ ≠ (.slice Ao20 t526.length co20 : Value).ownBlock ∧ k_ ≠ gb518)) (by (with_reducible repeat (first | apply Kd.V_alloc | apply Kd.V_drewN | apply Kd.V_drew)); exact Kd.V_mono HL525_8.out (fun _ hk => ⟨⟨hk.1.1, ⟨hk.2, hk.1.2.2⟩⟩, hk.1.2.1⟩)) hg hat); have n7_ := am (Kd.V_afterv (ok := (fun k_ => ((P0_10_ k_ ∨ P0_11_ k_) ∨ w.heap.size ≤ k_) ∧ some k_ ≠ (.slice Ao20 t526.length co20 : Value).ownBlock ∧ k_ ≠ gb518)) (by (with_reducible repeat (first | apply Kd.V_alloc | apply Kd.V_drewN | apply Kd.V_drew)); exact Kd.V_mono HL525_9.out (fun _ hk => ⟨⟨hk.1.1, ⟨hk.2, hk.1.2.2⟩⟩, hk.1.2.1⟩)) hg hat); have n8_ := am (Kd.V_afterv (ok := (fun k_ => ((P0_10_ k_ ∨ P0_11_ k_) ∨ w.heap.size ≤ k_) ∧ some k_ ≠ (.slice Ao20 t526.length co20 : Value).ownBlock ∧ k_ ≠ gb518)) (by (with_reducible repeat (first | apply Kd.V_alloc | apply Kd.V_drewN | apply Kd.V_drew)); exact Kd.V_mono HL525_10.out (fun _ hk => ⟨⟨hk.1.1, ⟨hk.2, hk.1.2.2⟩⟩, hk.1.2.1⟩)) hg hat); have n9_ := am (Kd.V_afterv (ok := (fun k_ => ((P0_10_ k_ ∨ P0_11_ k_) ∨ w.heap.size ≤ k_) ∧ some k_ ≠ (.slice Ao20 t526.length co20 : Value).ownBlock ∧ k_ ≠ gb518)) (by (with_reducible repeat (first | apply Kd.V_alloc | apply Kd.V_drewN | apply Kd.V_drew)); exact Kd.V_mono HL525_11.out (fun _ hk => ⟨⟨hk.1.1, ⟨hk.2, hk.1.2.2⟩⟩, hk.1.2.1⟩)) hg hat); have n10_ := am (Kd.N_afterv (ok := (fun k_ => ((P0_10_ k_ ∨ P0_11_ k_) ∨ w.heap.size ≤ k_) ∧ k_ ≠ gb518)) (by (with_reducible repeat (first | apply Kd.N_alloc | apply Kd.N_drewN | apply Kd.N_drew)); exact Kd.N_mono HO528.out (fun _ hk => ⟨⟨hk.1, hk.2.2⟩, hk.2.1⟩)) hg hat); have n11_ := am (hb); have n12_ := am (ho); clear HO_519010; clear HO_519011; clear BK518; clear HL525_5; clear HL525_6; clear HL525_7; clear HL525_8; clear HL525_9; clear HL525_10; clear HL525_11; clear HO528; clear HB; clear HO_3; revert n0_ n1_ n2_ n3_ n4_ n5_ n6_ n7_ n8_ n9_ n10_ n11_ n12_; intro HO_519010 HO_519011 BK518 HL525_5 HL525_6 HL525_7 HL525_8 HL525_9 HL525_10 HL525_11 HO528 HB HO531; clear ho hb hg hat))
   go_roundg k1
   case measure => have := HK1.out; omega
   case rel => exact ⟨(y529), (wrap64 (x4_1 + 1)), rfs, H', ⟨by have := HK1.out; omega⟩, ⟨by (with_reducible repeat (first | apply Kd.N_alloc | apply Kd.N_drewN | apply Kd.N_drew)); exact HO531.out⟩, ⟨by (with_reducible repeat (first | apply Kd.V_alloc | apply Kd.V_drewN | apply Kd.V_drew)); exact Kd.V_mono HO_519010.out (fun _ hk => ⟨hk.1.1, ⟨hk.2, hk.1.2.2⟩⟩)⟩, ⟨by (with_reducible repeat (first | apply Kd.V_alloc | apply Kd.V_drewN | apply Kd.V_drew)); exact Kd.V_mono HO_519011.out (fun _ hk => ⟨hk.1.1, ⟨hk.2, hk.1.2.2⟩⟩)⟩, ⟨bkw⟩, ⟨blw⟩⟩

/-! ### spec_CountComps: function 7 -/
mutual
def spec_CountComps.l0 : Nat → Int → Int → List (S49) → Option (Int)
 | 0, _, _, _ => none
 | k + 1, x3, x4, x533000 => if x4 < (x533000.length : Int) then (if 0 ≤ x4 then ((spec_l13Nested.f k ((rd_T49 x533000 x4).f2.f0) ((rd_T49 x533000 x4).f2.f1.f0) ((rd_T49 x533000 x4).f2.f1.f1) ((rd_T49 x533000 x4).f2.f1.f2) ((rd_T49 x533000 x4).f2.f1.f3.f0) ((rd_T49 x533000 x4).f2.f1.f3.f1) ((rd_T49 x533000 x4).f2.f1.f3.f2) ((rd_T49 x533000 x4).f2.f1.f4) ((rd_T49 x533000 x4).f2.f1.f5) ((rd_T49 x533000 x4).f2.f2) ((rd_T49 x533000 x4).f2.f3) ((rd_T49 x533000 x4).f2.f4.f0)).bind fun t534 => (spec_CountComps.l1 k x3 x4 t534 0 x533000)) else (none)) else (some x3)
def spec_CountComps.l1 : Nat → Int → Int → List (S29) → Int → List (S49) → Option (Int)
 | 0, _, _, _, _, _ => none
 | k + 1, x3, x4, x5, x6, x533000 => if x6 < (x5.length : Int) then (if 0 ≤ x6 then ((spec_CountComps.f k ((rd_T29 x5 x6).f0)).bind fun t538 => (spec_CountComps.l1 k (wrap64 (x3 + t538)) x4 x5 (wrap64 (x6 + 1)) x533000)) else (none)) else (spec_CountComps.l0 k x3 (wrap64 (x4 + 1)) x533000)
def spec_CountComps.f : Nat → List (S49) → Option (Int)
 | 0, _ => none
 | k + 1, l0_0 => spec_CountComps.l0 k (l0_0.length : Int) 0 l0_0
end
theorem spec_CountComps.calls (k : Nat) : ∀ (A0_0 : Option Addr) (c0_0 : Nat) (l0_0 : List (S49)) (r : Int) (w : World) (hr0_0 : Kd.C k49 w A0_0 l0_0.length l0_0) (hc0_0 : l0_0.length ≤ c0_0) (h : spec_CountComps.f k l0_0 = some r),
  Calls Try.prog 7 #[.agg #[.slice A0_0 l0_0.length c0_0]] w fun e w' => e = .returned (.int .i64 r) ∧ Below w.heap.size w w' := by
 induction k using Nat.strongRecOn with
 | _ k ih =>
 intro A0_0 c0_0 l0_0 r w hr0_0 hc0_0 h
 cases k with
 | zero => exact absurd h (by simp [spec_CountComps.f])
 | succ k =>
 simp only [spec_CountComps.f] at h
 have hu29 := Try.underlying29
 have hu47 := Try.underlying47
 have HR0_0 := am hr0_0
 have HC0_0 := am hc0_0
 clear hr0_0 hc0_0
 have HB := am (Below.refl w.heap.size w)
 have H : (spec_CountComps.l0 k (l0_0.length : Int) 0 l0_0) = some r := h
 clear h
 have H' := am H
 clear H
 go_enter Try.func7, Try.ntmps7
 go_wp2_with (first | ((with_reducible refine gate_dst (N := 1) rfl ?_); refine box_event ?hg (N := 1) ?hd (cs := #[.slice A0_0 l0_0.length c0_0]) (t := 29) ?hr ?_; (case hd => rfl); (case hg => rfl); (case hr => exact hrw); intro gb532 hg w2 hbox hb; have n0_ := am (below_step blw hb); have n1_ := am (hbox); have n2_ := am ((by rw [hg]; exact (below_size blw) : w.heap.size ≤ gb532)); have n3_ := n2_; clear HB; revert n0_ n1_ n2_ n3_; intro HB BK532 GW532 GE532; clear hb hbox hg; have hcz3_0 : w2.cell? ⟨gb532, 0, none⟩ = some (.slice A0_0 l0_0.length c0_0) := (blk_cell BK532.out 0).trans rfl; have hfz3_0 := blk_frozen BK532.out 0))
 go_loopg [3, 4] k (fun kq v3 v4 w' => ∃ (x3_1 : Int) (x4_1 : Int), v3 = .int .i64 x3_1 ∧ v4 = .int .i64 x4_1 ∧ Aside0 (spec_CountComps.l0 kq x3_1 x4_1 l0_0 = some r) ∧ Aside0 (kq ≤ k) ∧ Aside0 (w'.heap[gb532]? = some (.cells #[(.slice A0_0 l0_0.length c0_0)] 29 (0, 0))) ∧ Aside0 (Below w.heap.size w w'))
 case atStart => exact ⟨((l0_0.length : Int)), (0), rfs, rfs, H', ⟨Nat.le_refl _⟩, ⟨bkw⟩, ⟨blw⟩⟩
 case round =>
  clear H'
  (try clear p2); (try clear hcz3_0); (try clear hfz3_0)
  obtain ⟨x3_1, x4_1, rfl, rfl, HA, HK1, BK532, HB⟩ := hrel
  cases gk with
  | zero => exact absurd HA.out (by simp [spec_CountComps.l0])
  | succ k1 =>
   have H := HA.out
   clear HA
   simp only [spec_CountComps.l0] at H
   by_cases c4 : x4_1 < (l0_0.length : Int)
   case neg =>
    rw [if_neg c4] at H
    have c4b0 : decide (x4_1 < (l0_0.length : Int)) = false := decide_eq_false c4
    clear c4
    obtain rfl := Option.some.inj H
    have hcz15_0 : wr.cell? ⟨gb532, 0, none⟩ = some (.slice A0_0 l0_0.length c0_0) := (blk_cell BK532.out 0).trans rfl
    have hfz15_0 := blk_frozen BK532.out 0
    go_wp2
    go_ret
    exact ⟨rfw, blw⟩
   rw [if_pos c4] at H
   have c4b0 : decide (x4_1 < (l0_0.length : Int)) = true := decide_eq_true c4
   clear c4
   by_cases c5 : 0 ≤ x4_1
   case neg =>
    rw [if_neg c5] at H
    exact absurd H (by simp)
   rw [if_pos c5] at H
   have c5b0 : decide (0 ≤ x4_1) = true := decide_eq_true c5
   clear c5
   replace H := Option.bind_eq_some_iff.mp H
   obtain ⟨t534, A60, H⟩ := H
   replace H : (spec_CountComps.l1 k1 x3_1 x4_1 t534 0 l0_0) = some r := H
   have A6 := am A60
   clear A60
   have H' := am H
   clear H
   have hcz7_0 : wr.cell? ⟨gb532, 0, none⟩ = some (.slice A0_0 l0_0.length c0_0) := (blk_cell BK532.out 0).trans rfl
   have hfz7_0 := blk_frozen BK532.out 0
   have p533 : 0 ≤ (x4_1 : Int) := of_decide_eq_true asw
   have q533 : x4_1 < (l0_0.length : Int) := of_decide_eq_true asw
   obtain ⟨ad533, A533_0, c533_0, A533_5, c533_5, A533_6, c533_6, A533_7, c533_7, A533_8, c533_8, A533_14, c533_14, A533_15, c533_15, A533_16, c533_16, A533_17, c533_17, A533_18, c533_18, A533_19, c533_19, A533_20, c533_20, e533, hx533_0, hx533_1, hx533_2, hx533_3, hx533_4, hx533_5, hx533_6, hx533_7, hx533_8, hx533_9, hx533_10, hx533_11, hx533_12, hx533_13, hx533_14, hx533_15, hx533_16, hx533_17, hx533_18, hx533_19, hx533_20, hl533_0, hi533_0, hl533_5, hi533_5, hl533_6, hi533_6, hl533_7, hi533_7, hl533_8, hi533_8, hl533_14, hi533_14, hl533_15, hi533_15, hl533_16, hi533_16, hl533_17, hi533_17, hl533_18, hi533_18, hl533_19, hi533_19, hl533_20, hi533_20⟩ := at_T49 HR0_0.out x4_1 p533 q533
   cases e533
   replace hx533_0 := upw HB.out hx533_0
   replace hx533_1 := upw HB.out hx533_1
   replace hx533_2 := upw HB.out hx533_2
   replace hx533_3 := upw HB.out hx533_3
   replace hx533_4 := upw HB.out hx533_4
   replace hx533_5 := upw HB.out hx533_5
   replace hx533_6 := upw HB.out hx533_6
   replace hx533_7 := upw HB.out hx533_7
   replace hx533_8 := upw HB.out hx533_8
   replace hx533_9 := upw HB.out hx533_9
   replace hx533_10 := upw HB.out hx533_10
   replace hx533_11 := upw HB.out hx533_11
   replace hx533_12 := upw HB.out hx533_12
   replace hx533_13 := upw HB.out hx533_13
   replace hx533_14 := upw HB.out hx533_14
   replace hx533_15 := upw HB.out hx533_15
   replace hx533_16 := upw HB.out hx533_16
   replace hx533_17 := upw HB.out hx533_17
   replace hx533_18 := upw HB.out hx533_18
   replace hx533_19 := upw HB.out hx533_19
   replace hx533_20 := upw HB.out hx533_20
   have HR533_0 := am hi533_0
   have HC533_0 := am hl533_0
   clear hi533_0 hl533_0
   have HR533_5 := am hi533_5
   have HC533_5 := am hl533_5
   clear hi533_5 hl533_5
   have HR533_6 := am hi533_6
   have HC533_6 := am hl533_6
   clear hi533_6 hl533_6
   have HR533_7 := am hi533_7
   have HC533_7 := am hl533_7
   clear hi533_7 hl533_7
   have HR533_8 := am hi533_8
   have HC533_8 := am hl533_8
   clear hi533_8 hl533_8
   have HR533_14 := am hi533_14
   have HC533_14 := am hl533_14
   clear hi533_14 hl533_14
   have HR533_15 := am hi533_15
   have HC533_15 := am hl533_15
   clear hi533_15 hl533_15
   have HR533_16 := am hi533_16
   have HC533_16 := am hl533_16
   clear hi533_16 hl533_16
   have HR533_17 := am hi533_17
   have HC533_17 := am hl533_17
   clear hi533_17 hl533_17
   have HR533_18 := am hi533_18
   have HC533_18 := am hl533_18
   clear hi533_18 hl533_18
   have HR533_19 := am hi533_19
   have HC533_19 := am hl533_19
   clear hi533_19 hl533_19
   have HR533_20 := am hi533_20
   have HC533_20 := am hl533_20
   clear hi533_20 hl533_20
   replace p533 := eq_true p533
   replace q533 := eq_true q533
   go_wp2_with (first | ((with_reducible refine gate_callee (f := 16) rfl ?_); refine goesL_ (some 23) rfl rfl Try.func16 kr rfl #[.agg #[.int .i64 ((rd_T49 l0_0 x4_1).f2.f0), .int .i64 ((rd_T49 l0_0 x4_1).f2.f1.f0), .string ((rd_T49 l0_0 x4_1).f2.f1.f1), .int .i64 ((rd_T49 l0_0 x4_1).f2.f1.f2), .int .i64 ((rd_T49 l0_0 x4_1).f2.f1.f3.f0), .slice A533_14 ((rd_T49 l0_0 x4_1).f2.f1.f3.f1).length c533_14, .slice A533_15 ((rd_T49 l0_0 x4_1).f2.f1.f3.f2).length c533_15, .slice A533_16 ((rd_T49 l0_0 x4_1).f2.f1.f4).length c533_16, .slice A533_17 ((rd_T49 l0_0 x4_1).f2.f1.f5).length c533_17, .slice A533_18 ((rd_T49 l0_0 x4_1).f2.f2).length c533_18, .slice A533_19 ((rd_T49 l0_0 x4_1).f2.f3).length c533_19, .slice A533_20 ((rd_T49 l0_0 x4_1).f2.f4.f0).length c533_20]] rfl mpw ?_; (with_reducible refine (spec_l13Nested.calls k1 ((rd_T49 l0_0 x4_1).f2.f0) ((rd_T49 l0_0 x4_1).f2.f1.f0) ((rd_T49 l0_0 x4_1).f2.f1.f1) ((rd_T49 l0_0 x4_1).f2.f1.f2) ((rd_T49 l0_0 x4_1).f2.f1.f3.f0) _ _ ((rd_T49 l0_0 x4_1).f2.f1.f3.f1) _ _ ((rd_T49 l0_0 x4_1).f2.f1.f3.f2) _ _ ((rd_T49 l0_0 x4_1).f2.f1.f4) _ _ ((rd_T49 l0_0 x4_1).f2.f1.f5) _ _ ((rd_T49 l0_0 x4_1).f2.f2) (fun k_ => k_ < w.heap.size) _ _ ((rd_T49 l0_0 x4_1).f2.f3) (fun k_ => k_ < w.heap.size) _ _ ((rd_T49 l0_0 x4_1).f2.f4.f0) t534 _ ?side1 ?side2 ?side3 ?side4 ?side5 ?side6 ?side7 ?side8 ?side9 ?side10 ?side11 ?side12 A6.out).mono ?_); (case side1 => have X_ := HR533_14; exact cbl); (case side2 => exact HC533_14.out); (case side3 => have X_ := HR533_15; exact cbl); (case side4 => exact HC533_15.out); (case side5 => have X_ := HR533_16; exact cbl); (case side6 => exact HC533_16.out); (case side7 => have X_ := HR533_17; exact cbl); (case side8 => exact HC533_17.out); (case side9 => have X_ := HR533_18; exact cbl); (case side10 => exact HC533_18.out); (case side11 => exact Kd.V_mk HC533_19.out (Kd.F_below (Kd.C_F k47_heap HR533_19.out) blw)); (case side12 => exact Kd.V_mk HC533_20.out (Kd.F_below (Kd.C_F k49_heap HR533_20.out) blw)); rintro e w8 ⟨v535, rfl, ho0, hb⟩; refine ⟨_, rfl, ?_⟩; have n0_ := am (Kd.N_lower (Kd.N_mono (ok' := fun k_ => k_ ≠ gb532) ho0 (fun k_ hk_ => Or.elim hk_ (fun hs_ => Or.elim hs_ (fun hs_ => fun e_ => Nat.not_le.2 hs_ (by rw [e_]; exact GW532.out)) (fun hs_ => fun e_ => Nat.not_le.2 hs_ (by rw [e_]; exact GW532.out))) (fun hn_ => (Kd.freshB (g := gb532) (o := .cells #[.slice (some ad533) l0_0.length c0_0] 29 (0, 0)) bkw k_ hn_)))) (below_size blw)); have n1_ := am (blk_below (g := gb532) bkw hb); have n2_ := am (below_step blw hb); clear BK532; clear HB; revert n0_ n1_ n2_; intro HO536 BK532 HB; (try clear hb); (try clear hb2); (try clear hk); (try clear hi); (try clear ho0)))
   go_loopg [3, 6] k1 (fun kq v3 v6 w' => ∃ (x3_2 : Int) (x6_2 : Int), v3 = .int .i64 x3_2 ∧ v6 = .int .i64 x6_2 ∧ Aside0 (spec_CountComps.l1 kq x3_2 x4_1 t534 x6_2 l0_0 = some r) ∧ Aside0 (kq ≤ k1) ∧ Aside0 (Kd.N k29 29 w' w.heap.size (fun k_ => k_ ≠ gb532) v535 t534) ∧ Aside0 (w'.heap[gb532]? = some (.cells #[(.slice (some ad533) l0_0.length c0_0)] 29 (0, 0))) ∧ Aside0 (Below w.heap.size w w'))
   case atStart => exact ⟨(x3_1), (0), rfs, rfs, H', ⟨Nat.le_refl _⟩, ⟨by (with_reducible repeat (first | apply Kd.N_alloc | apply Kd.N_drewN | apply Kd.N_drew)); exact HO536.out⟩, ⟨bkw⟩, ⟨blw⟩⟩
   case round =>
    clear H'
    (try clear c1); (try clear p2 p2); (try clear c4); (try clear c4b0); (try clear c5); (try clear c5b0); (try clear p5); (try clear q5); (try clear hx5); (try clear c7); (try clear hcz3_0); (try clear hcz7_0); (try clear hfz3_0); (try clear hfz7_0); (try clear hx533_0 hx533_1 hx533_10 hx533_11 hx533_12 hx533_13 hx533_14 hx533_15 hx533_16 hx533_17 hx533_18 hx533_19 hx533_2 hx533_20 hx533_3 hx533_4 hx533_5 hx533_6 hx533_7 hx533_8 hx533_9); (try clear p533); (try clear q533)
    obtain ⟨x3_2, x6_2, rfl, rfl, HA, HK2, HO_5, BK532, HB⟩ := hrel
    cases gk with
    | zero => exact absurd HA.out (by simp [spec_CountComps.l1])
    | succ k2 =>
     have H := HA.out
     clear HA
     simp only [spec_CountComps.l1] at H
     by_cases c9 : x6_2 < (t534.length : Int)
     case neg =>
      rw [if_neg c9] at H
      have c9b0 : decide (x6_2 < (t534.length : Int)) = false := decide_eq_false c9
      clear c9
      have H' := am H
      clear H
      obtain ⟨Ao14, co14, eo14⟩ := Kd.N_slice HO_5.out
      subst eo14
      go_wp2
      go_roundg k2
      case measure => have := HK1.out; have := HK2.out; omega
      case rel => exact ⟨(x3_2), (wrap64 (x4_1 + 1)), rfs, rfs, H', ⟨by have := HK1.out; have := HK2.out; omega⟩, ⟨bkw⟩, ⟨blw⟩⟩
     rw [if_pos c9] at H
     have c9b0 : decide (x6_2 < (t534.length : Int)) = true := decide_eq_true c9
     clear c9
     by_cases c10 : 0 ≤ x6_2
     case neg =>
      rw [if_neg c10] at H
      exact absurd H (by simp)
     rw [if_pos c10] at H
     have c10b0 : decide (0 ≤ x6_2) = true := decide_eq_true c10
     clear c10
     replace H := Option.bind_eq_some_iff.mp H
     obtain ⟨t538, A110, H⟩ := H
     replace H : (spec_CountComps.l1 k2 (wrap64 (x3_2 + t538)) x4_1 t534 (wrap64 (x6_2 + 1)) l0_0) = some r := H
     have A11 := am A110
     clear A110
     have H' := am H
     clear H
     obtain ⟨Ao12, co12, eo12⟩ := Kd.N_slice HO_5.out
     subst eo12
     have p537 : 0 ≤ (x6_2 : Int) := of_decide_eq_true asw
     have q537 : x6_2 < (t534.length : Int) := of_decide_eq_true asw
     obtain ⟨ad537, A537_0, c537_0, e537, hx537_0, hl537_0, hi537_0⟩ := at_T29 (Kd.N_reads' HO_5.out).2.2 x6_2 p537 q537
     cases e537
     obtain ⟨ce537, hce537, hMe537, hcc537⟩ := Kd.N_get HO_5.out z29 x6_2 p537 (by first | exact q537 | exact of_decide_eq_true asw | (have e_ := (Kd.N_reads' HO_5.out).1; omega))
     obtain ⟨ua537_0, uc537_0, rfl, ul537_0, ge537_0⟩ := k29_openF hMe537
     have hv537_0 := hcc537 0 _ rfl
     rw [Nat.add_zero, show (k29).sz = 1 from rfl, Nat.mul_one] at hv537_0
     replace hv537_0 := Option.some.inj (hv537_0.symm.trans hx537_0)
     injection hv537_0 with hva_ hvn_ hvc_
     rw [hva_] at ge537_0
     rw [hvc_] at ul537_0
     have HL537_0 := am (show Kd.V k49 49 _ w.heap.size _ _ ((rd_T29 t534 x6_2).f0) from Kd.V_mk ul537_0 ge537_0)
     clear hva_ hvn_ hvc_ ge537_0 ul537_0
     clear hcc537 hce537
     have HR537_0 := am hi537_0
     have HC537_0 := am hl537_0
     clear hi537_0 hl537_0
     replace p537 := eq_true p537
     replace q537 := eq_true q537
     go_wp2_with (first | ((with_reducible refine gate_callee (f := 7) rfl ?_); refine goesL_ (some 35) rfl rfl Try.func7 kr rfl #[.agg #[.slice A537_0 ((rd_T29 t534 x6_2).f0).length c537_0]] rfl mpw ?_; (with_reducible refine (ih k2 (by have := HK1.out; have := HK2.out; omega) _ _ ((rd_T29 t534 x6_2).f0) t538 _ ?side1 ?side2 A11.out).mono ?_); (case side1 => repeat (first | exact (by repeat (first | (with_reducible exact HR537_0.out) | (with_reducible refine Kd.C_alloc ?_ _) | (with_reducible refine Kd.C_drewN ?_ _) | (with_reducible refine Kd.C_drew ?_) | exact HR537_0.out)) | (with_reducible refine Kd.C_alloc ?_ _) | (with_reducible refine Kd.C_drewN ?_ _) | (with_reducible refine Kd.C_drew ?_))); (case side2 => exact HC537_0.out); rintro e w13 ⟨rfl, hb⟩; refine ⟨_, rfl, ?_⟩; have n0_ := am (Kd.N_below (by (with_reducible repeat (first | apply Kd.N_alloc | apply Kd.N_drewN | apply Kd.N_drew)); exact HO_5.out) hb); have n1_ := am (Kd.V_below (by (with_reducible repeat (first | apply Kd.V_alloc | apply Kd.V_drewN | apply Kd.V_drew)); exact HL537_0.out) hb); have n2_ := am (blk_below (g := gb532) bkw hb); have n3_ := am (Kd.C_below (by repeat (first | (with_reducible exact HR537_0.out) | (with_reducible refine Kd.C_alloc ?_ _) | (with_reducible refine Kd.C_drewN ?_ _) | (with_reducible refine Kd.C_drew ?_) | exact HR537_0.out)) hb); have n4_ := am (below_step blw hb); clear HO_5; clear HL537_0; clear BK532; clear HR537_0; clear HB; revert n0_ n1_ n2_ n3_ n4_; intro HO_5 HL537_0 BK532 HR537_0 HB; (try clear hb); (try clear hb2); (try clear hk); (try clear hi)))
     go_roundg k2
     case measure => have := HK1.out; have := HK2.out; omega
     case rel => exact ⟨(wrap64 (x3_2 + t538)), (wrap64 (x6_2 + 1)), rfs, rfs, H', ⟨by have := HK1.out; have := HK2.out; omega⟩, ⟨by (with_reducible repeat (first | apply Kd.N_alloc | apply Kd.N_drewN | apply Kd.N_drew)); exact HO_5.out⟩, ⟨bkw⟩, ⟨blw⟩⟩

end Go.Proofs.Ytpkppeicceehcaa.Px
end
section
namespace Go.Proofs.Ytpkppeicceehcaa.Px
open Go.RowKit Go.Proofs.YtpkppeicceehcaaW.PrintWords Go.Proofs.YtpkppeicceehcaaW.PrintLast Go.Proofs.Ytpkppeicceehcaa.Pl Go.Proofs.Ytpkppeicceehcaa.Ext
set_option linter.unusedVariables false
set_option linter.unusedSimpArgs false
mutual
def lstCcH : S47 → List S29
  | ⟨a, _, _, ps, q⟩ => if a = 3 then [q] else lstCcP ps
def lstCcP : List S47 → List S29
  | [] => []
  | x :: r => lstCcH x ++ lstCcP r
end
theorem lstCcH_eq (x : S47) : lstCcH x = if x.f0 = 3 then [x.f4] else lstCcP x.f3 := by
  obtain ⟨_, _, _, _, _⟩ := x
  simp only [lstCcH]
def jnCc (n : Nat) (q : S29) : Nat := n + qvCc q.f0
theorem jnCc_mono : ∀ (l : List S29) (n : Nat), n ≤ l.foldl jnCc n
  | [], n => Nat.le_refl _
  | x :: r, n => by
    rw [List.foldl_cons]
    have h := jnCc_mono r (jnCc n x)
    have h2 : n ≤ jnCc n x := by unfold jnCc; omega
    omega
theorem acCcP_fold : ∀ (xs : List S47), (∀ x ∈ xs, ∀ n, acCcH x n = (lstCcH x).foldl jnCc n) → ∀ n, acCcP xs n = (lstCcP xs).foldl jnCc n
  | [], _, n => by simp [acCcP, lstCcP]
  | x :: r, h, n => by
    rw [acCcP, lstCcP, List.foldl_append, ← h x (List.mem_cons_self ..) n]
    exact acCcP_fold r (fun y hy => h y (List.mem_cons_of_mem _ hy)) _
theorem acCcH_fold : ∀ (x : S47) (n : Nat), acCcH x n = (lstCcH x).foldl jnCc n := by
  refine indHeadI fun x ih _ n => ?_
  rw [acCcH_eq, lstCcH_eq]
  by_cases h : x.f0 = 3
  · rw [if_pos h, if_pos h]
    simp [jnCc]
  · rw [if_neg h, if_neg h]
    exact acCcP_fold x.f3 ih n
theorem lstCcP_len : ∀ (xs : List S47), (∀ x ∈ xs, (lstCcH x).length ≤ ndCcH x) → (lstCcP xs).length ≤ ndCcP xs
  | [], _ => by simp [lstCcP]
  | x :: r, h => by
    have h1 := h x (List.mem_cons_self ..)
    have h2 := lstCcP_len r (fun y hy => h y (List.mem_cons_of_mem _ hy))
    rw [lstCcP, ndCcP, List.length_append]
    omega
theorem lstCcH_len : ∀ (x : S47), (lstCcH x).length ≤ ndCcH x := by
  refine indHeadI fun x ih _ => ?_
  rw [lstCcH_eq, ndCcH_eq]
  by_cases h : x.f0 = 3
  · rw [if_pos h]
    simp only [List.length_cons, List.length_nil]
    omega
  · rw [if_neg h]
    have := lstCcP_len x.f3 ih
    omega
theorem nestedCc_ev : ∀ x : S47, SmHead x → ndCcH x ≤ 1099511627776 → Ev (fun k => spec_l13Nested.f k x.f0 x.f1.f0 x.f1.f1 x.f1.f2 x.f1.f3.f0 x.f1.f3.f1 x.f1.f3.f2 x.f1.f4 x.f1.f5 x.f2 x.f3 x.f4.f0) (lstCcH x) := by
  refine indHeadI fun x ih _ hs hn => ?_
  have he := ndCcH_eq x
  rw [lstCcH_eq]
  refine Ev.up ?_
  simp only [spec_l13Nested.f]
  refine Ev.bind (Ev.const (r := ([] : List S29)) rfl) ?_
  by_cases h : x.f0 = 3
  · rw [if_pos h]
    exact Ev.pos h (Ev.pos (by decide) (Ev.const rfl))
  · rw [if_neg h]
    refine Ev.neg h ?_
    have lp : ∀ i : Nat, ∀ acc : List S29, i ≤ x.f3.length → acc.length + ndCcP (x.f3.drop i) ≤ 1099511627776 → Ev (fun k => spec_l13Nested.l0 k acc (i : Int) x.f0 x.f1.f0 x.f1.f1 x.f1.f2 x.f1.f3.f0 x.f1.f3.f1 x.f1.f3.f2 x.f1.f4 x.f1.f5 x.f2 x.f3 x.f4.f0) (acc ++ lstCcP (x.f3.drop i)) := by
      intro i
      obtain ⟨d, hd⟩ : ∃ d, d = x.f3.length - i := ⟨_, rfl⟩
      induction d generalizing i with
      | zero =>
        intro acc hi hb
        refine Ev.up ?_
        simp only [spec_l13Nested.l0]
        refine Ev.neg (by omega) (Ev.const ?_)
        rw [List.drop_of_length_le (by omega)]
        simp [lstCcP]
      | succ d ihd =>
        intro acc hi hb
        have hlt : i < x.f3.length := by omega
        have hmem := mem_getD x.f3 z47 i hlt
        have hdr : x.f3.drop i = x.f3.getD i z47 :: x.f3.drop (i + 1) := dropCcH x.f3 i hlt
        have hlen := lstCcH_len (x.f3.getD i z47)
        have hb2 := hb
        rw [hdr, ndCcP] at hb2
        refine Ev.up ?_
        simp only [spec_l13Nested.l0, w1' hlt hs.p3.1]
        refine Ev.pos (by omega) (Ev.pos (by omega) ?_)
        refine Ev.bind (ih (x.f3.getD i z47) hmem (hs.p3.2 _ hmem) (by omega)) (Ev.pos (by omega) ?_)
        refine Ev.eq (ihd (i + 1) (by omega) _ (by omega) (by rw [List.length_append]; omega)) ?_
        rw [hdr, lstCcP, List.append_assoc]
    exact Ev.eq (lp 0 [] (by omega) (by rw [List.drop_zero]; simp; omega)) (by simp)
theorem sm_lstCcP : ∀ (xs : List S47), (∀ x ∈ xs, ∀ q ∈ lstCcH x, SmQuery q ∧ (1 + q.f0.length + ndCcC q.f0 ≤ ndCcH x) ∧ SizeOf.sizeOf q < SizeOf.sizeOf x) → ∀ q ∈ lstCcP xs, SmQuery q ∧ (1 + q.f0.length + ndCcC q.f0 ≤ ndCcP xs) ∧ SizeOf.sizeOf q < SizeOf.sizeOf xs
  | [], _, q, hq => by simp [lstCcP] at hq
  | x :: r, h, q, hq => by
    rw [lstCcP] at hq
    rcases List.mem_append.1 hq with hq | hq
    · obtain ⟨h1, h2, h3⟩ := h x (List.mem_cons_self ..) q hq
      exact ⟨h1, by rw [ndCcP]; omega, by simp; omega⟩
    · obtain ⟨h1, h2, h3⟩ := sm_lstCcP r (fun y hy => h y (List.mem_cons_of_mem _ hy)) q hq
      exact ⟨h1, by rw [ndCcP]; omega, by simp; omega⟩
theorem sm_lstCcH : ∀ (x : S47), SmHead x → ∀ q ∈ lstCcH x, SmQuery q ∧ (1 + q.f0.length + ndCcC q.f0 ≤ ndCcH x) ∧ SizeOf.sizeOf q < SizeOf.sizeOf x := by
  refine indHeadI fun x ih _ hs q hq => ?_
  rw [lstCcH_eq] at hq
  have he := ndCcH_eq x
  by_cases h : x.f0 = 3
  · rw [if_pos h] at hq
    obtain rfl := List.mem_singleton.1 hq
    exact ⟨hs.p4, by omega, by obtain ⟨_, _, _, _, _⟩ := x; simp; omega⟩
  · rw [if_neg h] at hq
    obtain ⟨h1, h2, h3⟩ := sm_lstCcP x.f3 (fun y hy => ih y hy (hs.p3.2 y hy)) q hq
    exact ⟨h1, by omega, by obtain ⟨_, _, _, _, _⟩ := x; simp at h3 ⊢; omega⟩
theorem CountComps_ev : ∀ (N : Nat) (cs : List S49), SizeOf.sizeOf cs ≤ N → SmQuery ⟨cs⟩ → 1 + cs.length + ndCcC cs ≤ 1099511627776 → Ev (fun k => spec_CountComps.f k cs) ((qvCc cs : Nat) : Int) := by
  intro N
  induction N with
  | zero => intro cs h0; exfalso; cases cs <;> simp at h0
  | succ N IH =>
  intro cs hN hs hn
  refine Ev.up ?_
  simp only [spec_CountComps.f]
  have lp : ∀ i : Nat, ∀ m : Nat, i ≤ cs.length → m + ndCcC (cs.drop i) ≤ 1099511627776 → Ev (fun k => spec_CountComps.l0 k (m : Int) (i : Int) cs) ((acCcC (cs.drop i) m : Nat) : Int) := by
    intro i
    obtain ⟨d, hd⟩ : ∃ d, d = cs.length - i := ⟨_, rfl⟩
    induction d generalizing i with
    | zero =>
      intro m hi hb
      refine Ev.up ?_
      simp only [spec_CountComps.l0]
      refine Ev.neg (by omega) (Ev.const ?_)
      rw [List.drop_of_length_le (by omega)]
      simp only [acCcC]
      skip
    | succ d ihd =>
      intro m hi hb
      have hlt : i < cs.length := by omega
      have hmem := mem_getD cs z49 i hlt
      have hdr : cs.drop i = cs.getD i z49 :: cs.drop (i + 1) := dropCcC cs i hlt
      have hb2 := hb
      rw [hdr, ndCcC_cons] at hb2
      have hsz : SizeOf.sizeOf (cs.getD i z49) < SizeOf.sizeOf cs := List.sizeOf_lt_of_mem hmem
      have hsz2 : SizeOf.sizeOf (cs.getD i z49).f2 < SizeOf.sizeOf (cs.getD i z49) := by generalize cs.getD i z49 = c; obtain ⟨_, _, _⟩ := c; simp <;> omega
      have hsm := (hs.2 _ hmem).2.2
      refine Ev.up ?_
      simp only [spec_CountComps.l0]
      refine Ev.pos (by omega) (Ev.pos (by omega) ?_)
      refine Ev.bind (nestedCc_ev (cs.getD i z49).f2 hsm (by omega)) ?_
      have hq := sm_lstCcH (cs.getD i z49).f2 hsm
      have hll := lstCcH_len (cs.getD i z49).f2
      have hfo := acCcH_fold (cs.getD i z49).f2 m
      have hle := acCcH_le (cs.getD i z49).f2 m
      rw [show acCcC (cs.drop i) m = acCcC (cs.drop (i + 1)) (acCcH (cs.getD i z49).f2 m) by rw [hdr, acCcC_cons]]
      rw [hfo] at hle ⊢
      generalize lstCcH (cs.getD i z49).f2 = L at hq hll hfo hle ⊢
      have lp2 : ∀ j : Nat, ∀ u : Nat, j ≤ L.length → (L.drop j).foldl jnCc u + ndCcC (cs.drop (i + 1)) ≤ 1099511627776 → Ev (fun k => spec_CountComps.l1 k (u : Int) (i : Int) L (j : Int) cs) ((acCcC (cs.drop (i + 1)) ((L.drop j).foldl jnCc u) : Nat) : Int) := by
        intro j
        obtain ⟨e, he⟩ : ∃ e, e = L.length - j := ⟨_, rfl⟩
        induction e generalizing j with
        | zero =>
          intro u hj hb3
          have hdz : L.drop j = [] := List.drop_of_length_le (by omega)
          rw [hdz, List.foldl_nil] at hb3
          rw [hdz, List.foldl_nil]
          refine Ev.up ?_
          simp only [spec_CountComps.l1, w1' hlt hs.1]
          exact Ev.neg (by omega) (ihd (i + 1) (by omega) u (by omega) hb3)
        | succ e ihe =>
          intro u hj hb3
          have hlt2 : j < L.length := by omega
          have hmq : L.getD j z29 ∈ L := mem_getD L z29 j hlt2
          have hdl : L.drop j = L.getD j z29 :: L.drop (j + 1) := by
            rw [List.drop_eq_getElem_cons hlt2]
            congr 1
            simp [List.getD_eq_getElem?_getD, hlt2]
          obtain ⟨q1, q2, q3⟩ := hq _ hmq
          rw [hdl, List.foldl_cons] at hb3
          have hmono : jnCc u (L.getD j z29) ≤ (L.drop (j + 1)).foldl jnCc (jnCc u (L.getD j z29)) := jnCc_mono _ _
          refine Ev.up ?_
          simp only [spec_CountComps.l1]
          refine Ev.pos (by omega) (Ev.pos (by omega) ?_)
          have hsq : SizeOf.sizeOf (L.getD j z29).f0 < SizeOf.sizeOf (L.getD j z29) := by generalize L.getD j z29 = c; obtain ⟨_⟩ := c; simp <;> omega
          refine Ev.bind (IH (L.getD j z29).f0 (show SizeOf.sizeOf (L.getD j z29).f0 ≤ N by omega) q1 (by omega)) ?_
          rw [show wrap64 (((u : Nat) : Int) + ((qvCc (L.getD j z29).f0 : Nat) : Int)) = ((jnCc u (L.getD j z29) : Nat) : Int) from by
            have h0 : jnCc u (L.getD j z29) = u + qvCc (L.getD j z29).f0 := rfl
            rw [h0]
            unfold wrap64
            omega]
          rw [show wrap64 ((j : Int) + 1) = ((j + 1 : Nat) : Int) from w1 hlt2 (by unfold maxLen; omega)]
          refine Ev.eq (ihe (j + 1) (by omega) (jnCc u (L.getD j z29)) (by omega) hb3) ?_
          rw [hdl, List.foldl_cons]
      refine Ev.eq (lp2 0 m (by omega) (by rw [List.drop_zero]; omega)) (by rw [List.drop_zero])
  exact Ev.eq (lp 0 cs.length (by omega) (by rw [List.drop_zero]; omega)) (by rw [List.drop_zero]; rfl)

end Go.Proofs.Ytpkppeicceehcaa.Px
end
section
namespace Go.Proofs.Ytpkppeicceehcaa.Px
open Go.RowKit Go.Proofs.YtpkppeicceehcaaW.PrintWords Go.Proofs.YtpkppeicceehcaaW.PrintLast Go.Proofs.Ytpkppeicceehcaa.Pl Go.Proofs.Ytpkppeicceehcaa.Ext
set_option linter.unusedVariables false
set_option linter.unusedSimpArgs false
open Classical in
noncomputable def impl_CountComps.f (_k : Nat) (l0_0 : List (S49)) : Option (Int) :=
  if SmQuery ⟨l0_0⟩ ∧ 1 + l0_0.length + ndCcC l0_0 ≤ 1099511627776 then some ((qvCc l0_0 : Nat) : Int) else none
theorem impl_CountComps.calls (k : Nat) (A0_0 : Option Addr) (c0_0 : Nat) (l0_0 : List (S49)) (r : Int) (w : World) (hr0_0 : Kd.C k49 w A0_0 l0_0.length l0_0) (hc0_0 : l0_0.length ≤ c0_0) (h : impl_CountComps.f k l0_0 = some r) :
    Calls Try.prog 9 #[.agg #[.slice A0_0 l0_0.length c0_0]] w fun e w' => e = .returned (.int .i64 r) ∧ Below w.heap.size w w' := by
  unfold impl_CountComps.f at h
  by_cases hc : SmQuery ⟨l0_0⟩ ∧ 1 + l0_0.length + ndCcC l0_0 ≤ 1099511627776
  · rw [if_pos hc] at h
    obtain rfl := Option.some.inj h
    exact topCc_go l0_0 hc.1 hc.2 A0_0 c0_0 w hr0_0 hc0_0
  · rw [if_neg hc] at h
    cases h

end Go.Proofs.Ytpkppeicceehcaa.Px
end
section
namespace Go.Proofs.Ytpkppeicceehcaa.Ext
open Go.RowKit Go.Proofs.YtpkppeicceehcaaW.PrintWords
set_option linter.unusedVariables false
theorem Cells_adds {w : World} {a : Addr} {cs : List Value} (h : Cells w a cs) (j : Nat) (v : Value) (e : cs[j]? = some v) : w.cell? (a.add j) = some v := by
  cases j with
  | zero =>
    rw [Addr.add_zero']
    cases cs with
    | nil => simp at e
    | cons c cs =>
      have e2 := Option.some.inj e
      subst e2
      exact h.1
  | succ j =>
    rw [Addr.add_succ']
    exact Cells_get h (j + 1) (Nat.succ_pos j) e
theorem run_loadVar_wide {P : Program} {w : World} {A : Addr} {cs : List Value} (h : Cells w A cs) (ty : TypeId) {d : TypeDesc} (hu : P.underlying ty = some d) (hd : d.isRow = true) (hi : (P.info? ty).map (·.size) = some cs.length) :
    (loadVar ty A).run P w = .ok (.agg cs.toArray) w := by
  have hl : (loadCells A cs.length).run P w = .ok cs.toArray w := run_loadCells_list (P := P) w A cs (fun j v hv => Cells_adds h j v hv)
  cases hq : P.info? ty with
  | none => simp [hq] at hi
  | some i =>
    have hs : i.size = cs.length := by simpa [hq] using hi
    have hagg : (isAgg ty).run P w = .ok true w := by
      unfold isAgg
      rw [Sem.run_bind, run_underlying hu w]
      cases d <;> simp_all
    simp [loadVar, Sem.run_bind, hagg, sizeOf, typeInfo, hq, hs, hl]
theorem wide_load {P : Program} {ops : Array Oper} {Q : Exit → Act → World → Prop} {rest : List Oper} {op : Oper} {a : Act} {w : World} {N : Tmp} (hg : op.guard = none) (hN : op.dst = some N) {ty : TypeId} {x : Operand} (ho : op.op = .load ty x) {A : Addr} {cs : List Value} (hc : Cells w A cs) (hx : a.eval x = .pointer (some A)) {d : TypeDesc} (hu : P.underlying ty = some d) (hd : d.isRow = true) (hi : (P.info? ty).map (·.size) = some cs.length)
    (h : wpList P ops Q rest (a.put (some N) (.agg cs.toArray)) w) : wpList P ops Q (op :: rest) a w := by
  refine wpList_plain hg fun K hK => ?_
  unfold Oper.wp execOp
  simp only [ho, hx, Instr.loadAt, Instr.sureAddr, Sem.run_bind, Sem.run_pure, Result.andThen_ok, run_loadVar_wide hc ty hu hd hi]
  show K (a.put op.dst _) w
  rw [hN]
  exact hK _ _ h
theorem there_nil {w : World} {b o : Nat} : w.there b o 0 := fun j hj => absurd hj (Nat.not_lt_zero j)
theorem there_c {w : World} {b o n : Nat} {v : Value} (hx : w.cell? ⟨b, o, none⟩ = some v) (hf : w.frozen? ⟨b, o, none⟩ = false) (h : w.there b (o + 1) n) : w.there b o (n + 1) := fun j hj => by
  cases j with
  | zero => exact ⟨by simp [hx], by simpa using hf⟩
  | succ j =>
    have := h j (by omega)
    rwa [Nat.add_assoc, Nat.add_comm 1 j] at this
theorem there_blk {w : World} {g t : Nat} {arr : Array Value} (h : w.heap[g]? = some (.cells arr t (0, 0))) : w.there g 0 arr.size := fun j hj => by
  refine ⟨?_, ?_⟩
  · rw [Nat.zero_add, blk_cell h j]
    simp [hj]
  · exact blk_frozen h (0 + j)
theorem wide_run {P : Program} {a : Act} {w : World} {op : Oper} {ty : TypeId} {x y : Operand} (ho : op.op = .store ty x y) {b o : Nat} {cs : List Value} (hx : a.eval x = .pointer (some ⟨b, o, none⟩)) (hy : a.eval y = .agg cs.toArray) (ht : w.there b o cs.length) (hi : (P.info? ty).map (·.size) = some cs.length) (h1 : cs.all (·.oneCell') = true) {w1 : World} (e : w.setCells b o cs = w1) : (execOp a.eval op).run P w = .ok .skip w1 := by
  subst e
  have h2 := run_storeVar_mid (P := P) w b o ty cs.toArray (by simpa using ht) (by simpa using hi) (all_oneCell_toArray (fun v hv => (List.all_eq_true.1 h1) v hv))
  unfold execOp
  simp only [ho, hx, hy, Instr.storeAt, Instr.sureAddr, Sem.run_bind, Sem.run_pure, Result.andThen_ok, h2]
theorem wide_boxst {P : Program} {ops : Array Oper} {Q : Exit → Act → World → Prop} {rest : List Oper} {op : Oper} {a : Act} {w : World} (hg : op.guard = none) (hN : op.dst = none) {ty : TypeId} {x y : Operand} (ho : op.op = .store ty x y) {b t : Nat} {arr : Array Value} (hb : w.heap[b]? = some (.cells arr t (0, 0))) {cs : List Value} (hx : a.eval x = .pointer (some ⟨b, 0, none⟩)) (hy : a.eval y = .agg cs.toArray) (hs : arr.size = cs.length) (hi : (P.info? ty).map (·.size) = some cs.length) (h1 : cs.all (·.oneCell') = true)
    (h : wpList P ops Q rest a (w.setCells b 0 cs)) : wpList P ops Q (op :: rest) a w := by
  have hr := wide_run (P := P) ho hx hy (hs ▸ there_blk hb) hi h1 rfl
  refine wpList_plain hg fun K hK => ?_
  unfold Oper.wp
  rw [hr]
  show K (a.put op.dst undef) _
  rw [hN]
  exact hK _ _ h
end Go.Proofs.Ytpkppeicceehcaa.Ext
end
section
namespace Go.Proofs.Ytpkppeicceehcaa.Ext
open Go.RowKit Go.Proofs.YtpkppeicceehcaaW.PrintWords
theorem wide_take {P : Program} {a : Act} {w : World} {op : Oper} {ty : TypeId} {x : Operand} (ho : op.op = .load ty x) {A : Addr} {cs : List Value} (hc : Cells w A cs) (hx : a.eval x = .pointer (some A)) {d : TypeDesc} (hu : P.underlying ty = some d) (hd : d.isRow = true) (hi : (P.info? ty).map (·.size) = some cs.length) : (execOp a.eval op).run P w = .ok (.value (.agg cs.toArray)) w := by
  unfold execOp
  simp only [ho, hx, Instr.loadAt, Instr.sureAddr, Sem.run_bind, Sem.run_pure, Result.andThen_ok, run_loadVar_wide hc ty hu hd hi]
theorem setCells_blk {g t : Nat} : ∀ (cs : List Value) (o : Nat) (w : World) (arr : Array Value), w.heap[g]? = some (.cells arr t (0, 0)) → ∃ arr' : Array Value, arr'.size = arr.size ∧ (w.setCells g o cs).heap[g]? = some (.cells arr' t (0, 0))
  | [], _, _, arr, h => ⟨arr, rfl, h⟩
  | v :: r, o, w, arr, h => by
    obtain ⟨a', h1, h2⟩ := setCells_blk r (o + 1) (w.setCell ⟨g, o, none⟩ v) _ (blk_set h o v)
    exact ⟨a', by rw [h1, Array.size_setIfInBounds], h2⟩
theorem blk_all {w : World} {g t : Nat} {arr : Array Value} {cs : List Value} (h : w.heap[g]? = some (.cells arr t (0, 0))) (hs : arr.size = cs.length) : (w.setCells g 0 cs).heap[g]? = some (.cells cs.toArray t (0, 0)) := by
  obtain ⟨a', h1, h2⟩ := setCells_blk cs 0 w arr h
  rw [h2]
  have he : a' = cs.toArray := by
    apply Array.ext'
    apply List.ext_getElem?
    intro j
    by_cases hj : j < cs.length
    · have h3 := World.cell?_setCells_in g cs 0 w (fun i hi => (there_blk h i (by omega)).1) j hj
      have h4 := blk_cell h2 j
      rw [Nat.zero_add] at h3
      rw [h3] at h4
      simp only [Array.getElem?_toList] 
      rw [← h4]
      simp [hj]
    · rw [List.getElem?_eq_none (by simp; omega), List.getElem?_eq_none (by simp; omega)]
  rw [he]
theorem setCells_put {g t : Nat} : ∀ (cs : List Value) (A B : List Value) (w : World), w.heap[g]? = some (.cells (A ++ B).toArray t (0, 0)) → cs.length ≤ B.length → (w.setCells g A.length cs).heap[g]? = some (.cells (A ++ cs ++ B.drop cs.length).toArray t (0, 0))
  | [], A, B, w, h, _ => by simpa [World.setCells] using h
  | v :: r, A, [], w, h, hl => by simp at hl
  | v :: r, A, x :: B, w, h, hl => by
    have h2 := blk_set h A.length v
    rw [List.setIfInBounds_toArray] at h2
    have e : (A ++ x :: B).set A.length v = (A ++ [v]) ++ B := by simp
    rw [e] at h2
    have h3 := setCells_put r (A ++ [v]) B (w.setCell ⟨g, A.length, none⟩ v) h2 (by simpa using hl)
    rw [List.length_append, List.length_singleton] at h3
    simpa [World.setCells] using h3
theorem blk_part {w : World} {g t : Nat} {cs ds : List Value} (A B : List Value) (o : Nat) (ho : A.length = o) (h : w.heap[g]? = some (.cells (A ++ B).toArray t (0, 0))) (hl : cs.length ≤ B.length) (e : A ++ cs ++ B.drop cs.length = ds) : (w.setCells g o cs).heap[g]? = some (.cells ds.toArray t (0, 0)) := by
  subst ho
  exact e ▸ setCells_put cs A B w h hl
end Go.Proofs.Ytpkppeicceehcaa.Ext
end
