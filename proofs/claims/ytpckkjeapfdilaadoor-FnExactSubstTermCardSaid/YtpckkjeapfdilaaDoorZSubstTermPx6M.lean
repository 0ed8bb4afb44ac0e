/- Printed by a program of this session: what functions of the translation come to, each contract as it stands. No condition. -/
import Derived.Test.YtpckkjeapfdilaaDoorZSubstTermSh
import Derived.Test.YtpckkjeapfdilaaDoorZSubstTermPx0M
import Derived.Test.YtpckkjeapfdilaaDoorZSubstTermPx5M
import Derived.Test.YtpckkjeapfdilaaDoorZSubstTermPlM
import Derived.Test.YtpckkjeapfdilaaDoorZSubstTermWLastM
import Derived.Lib.ItoaLen
section
namespace Go.Proofs.YtpckkjeapfdilaaDoor.Px
set_option maxHeartbeats 8000000
set_option maxRecDepth 100000
open Go.RowKit Go.Proofs.YtpckkjeapfdilaaDoor.Ext Go.Proofs.YtpckkjeapfdilaaDoorW.PrintWords Go.Proofs.YtpckkjeapfdilaaDoorW.PrintLast Go.Proofs.YtpckkjeapfdilaaDoorW.PrintMore
attribute [local go_sem] max2_int min2_int max_two min_two max_three min_three max_four min_four   -- for this text's walks alone
set_option linter.unusedVariables false
set_option linter.unusedSimpArgs false

def spec_l11Without.l0 : Nat → List ByteArray → ByteArray → List ByteArray → Int → Option (List ByteArray)
 | 0, _, _, _, _ => none
 | k + 1, x0, x1, x5, x6 => if x6 < (x0.length : Int) then (if 0 ≤ x6 then (if (rdOf ByteArray.empty x0 x6).toList = x1.toList then (spec_l11Without.l0 k x0 x1 x5 (wrap64 (x6 + 1))) else (if x5.length < 8796093022208 then (spec_l11Without.l0 k x0 x1 (x5 ++ [rdOf ByteArray.empty x0 x6]) (wrap64 (x6 + 1))) else (none))) else (none)) else (some x5)
def spec_l11Without.f (k : Nat) (l0 : List ByteArray) (a1 : ByteArray) : Option (List ByteArray) := spec_l11Without.l0 k l0 a1 (([] : List ByteArray)) 0
theorem spec_l11Without.calls (k : Nat) (A0 : Option Addr) (c0 : Nat) (l0 : List ByteArray) (a1 : ByteArray) (r : List ByteArray) (w : World) (hr0 : Kd.C Kd.string w A0 l0.length l0) (hc0 : l0.length ≤ c0) (h : spec_l11Without.f k l0 a1 = some r) :
  Calls Tryd.prog 43 #[.slice A0 l0.length c0, .string a1] w fun e w' => ∃ v0_ : Value, e = .returned (v0_) ∧ Kd.R Kd.string 9 w' w.heap.size (fun _ => True) v0_ r ∧ Below w.heap.size w w' := by
 have HR0 := am hr0
 have HC0 := am hc0
 clear hr0 hc0
 have HB := am (Below.refl w.heap.size w)
 have H : (spec_l11Without.l0 k l0 a1 (([] : List ByteArray)) 0) = some r := h
 clear h
 obtain ⟨y186, hy186⟩ : ∃ y_ : List ByteArray, y_ = (([] : List ByteArray)) := ⟨_, rfl⟩
 replace H : (spec_l11Without.l0 k l0 a1 y186 0) = some r := by first | (rw [hy186]; with_reducible exact H) | (have H2_ := (Option.bind_some _ _).symm.trans H; rw [hy186]; with_reducible exact H2_) | (have H2_ := (Option.bind_some _ _).symm.trans H; with_reducible exact H2_) | with_reducible exact H | (rw [hy186]; exact H) | exact H
 have Ny186 := am hy186
 clear hy186
 have H' := am H
 clear H
 go_enter Tryd.func43, Tryd.ntmps43
 go_wp2_with (first | ((with_reducible refine gate_dst (N := 7) rfl ?_); refine Kd.R_lit Kd.string _ 9 ?hg (N := 7) ?hd (xs := ([] : List ByteArray)) (inner := []) (ok := fun _ => True) (okp := fun _ => True) ?hr ?hp (fun _ hk => hk) trivial (Below.refl _ _) (Nat.le_refl _) (by simp) ?_; (case hd => rfl); (case hg => rfl); (case hr => exact hrw); (case hp => exact (Reps.none _ _)); intro v187 w3 ho4 hb hg_ hnew_; clear hg_ hnew_; (first | rw [← Ny186.out] at ho4 | (simp only [Int.reduceToNat] at ho4; rw [← Ny186.out] at ho4)); have n0_ := am (Kd.R_lower ho4 (below_size blw)); have n1_ := am (below_step blw hb); clear HB; revert n0_ n1_; intro HO188 HB; clear hb ho4))
 go_loopg [5, 6] k (fun kq v5 v6 w' => ∃ (x5_1 : List ByteArray) (x6_1 : Int), v6 = .int .i64 x6_1 ∧ Aside0 (spec_l11Without.l0 kq l0 a1 x5_1 x6_1 = some r) ∧ Aside0 (kq ≤ k) ∧ Aside0 (Kd.R Kd.string 9 w' w.heap.size (fun _ => True) v5 x5_1) ∧ Aside0 (Below w.heap.size w w'))
 case atStart => exact ⟨(y186), (0), rfs, H', ⟨Nat.le_refl _⟩, ⟨by (with_reducible repeat (first | apply Kd.R_alloc | apply Kd.R_drewN | apply Kd.R_drew)); exact HO188.out⟩, ⟨blw⟩⟩
 case round =>
  clear H'
  (try clear p2); (try clear c4)
  obtain ⟨x5_1, x6_1, rfl, HA, HK1, HO_5, HB⟩ := hrel
  cases gk with
  | zero => exact absurd HA.out (by simp [spec_l11Without.l0])
  | succ k1 =>
   have H := HA.out
   clear HA
   simp only [spec_l11Without.l0] at H
   by_cases c5 : x6_1 < (l0.length : Int)
   case neg =>
    rw [if_neg c5] at H
    have c5b0 : decide (x6_1 < (l0.length : Int)) = false := decide_eq_false c5
    clear c5
    obtain rfl := Option.some.inj H
    go_wp2
    go_ret
    exact ⟨_, rfw, by (with_reducible repeat (first | apply Kd.R_alloc | apply Kd.R_drewN | apply Kd.R_drew)); exact HO_5.out, blw⟩
   rw [if_pos c5] at H
   have c5b0 : decide (x6_1 < (l0.length : Int)) = true := decide_eq_true c5
   clear c5
   by_cases c6 : 0 ≤ x6_1
   case neg =>
    rw [if_neg c6] at H
    exact absurd H (by simp)
   rw [if_pos c6] at H
   have c6b0 : decide (0 ≤ x6_1) = true := decide_eq_true c6
   clear c6
   by_cases c7 : (rdOf ByteArray.empty l0 x6_1).toList = a1.toList
   ·rw [if_pos c7] at H
    have c7b0 : ((rdOf ByteArray.empty l0 x6_1).toList == a1.toList) = true := beq_iff_eq.mpr c7
    have c7b1 : ((rdOf ByteArray.empty l0 x6_1).toList != a1.toList) = false := bne_eq_false_iff_eq.mpr c7
    clear c7
    have H' := am H
    clear H
    have p189 : 0 ≤ (x6_1 : Int) := of_decide_eq_true asw
    have q189 : x6_1 < (l0.length : Int) := of_decide_eq_true asw
    obtain ⟨ad189, e189, hx189_0⟩ := Kd.at_string HR0.out x6_1 p189 q189
    cases e189
    replace hx189_0 := upw HB.out hx189_0
    replace p189 := eq_true p189
    replace q189 := eq_true q189
    go_wp2
    go_roundg k1
    case measure => have := HK1.out; omega
    case rel => exact ⟨(x5_1), (wrap64 (x6_1 + 1)), rfs, H', ⟨by have := HK1.out; omega⟩, ⟨by (with_reducible repeat (first | apply Kd.R_alloc | apply Kd.R_drewN | apply Kd.R_drew)); exact HO_5.out⟩, ⟨blw⟩⟩
   rw [if_neg c7] at H
   have c7b0 : ((rdOf ByteArray.empty l0 x6_1).toList == a1.toList) = false := beq_eq_false_iff_ne.mpr c7
   have c7b1 : ((rdOf ByteArray.empty l0 x6_1).toList != a1.toList) = true := bne_iff_ne.mpr c7
   by_cases c8 : x5_1.length < 8796093022208
   case neg =>
    rw [if_neg c8] at H
    exact absurd H (by simp)
   rw [if_pos c8] at H
   have LMc8 := am c8
   clear c8
   obtain ⟨y191, hy191⟩ : ∃ y_ : List ByteArray, y_ = (x5_1 ++ [rdOf ByteArray.empty l0 x6_1]) := ⟨_, rfl⟩
   replace H : (spec_l11Without.l0 k1 l0 a1 y191 (wrap64 (x6_1 + 1))) = some r := by first | (rw [hy191]; with_reducible exact H) | (have H2_ := (Option.bind_some _ _).symm.trans H; rw [hy191]; with_reducible exact H2_) | (have H2_ := (Option.bind_some _ _).symm.trans H; with_reducible exact H2_) | with_reducible exact H | (rw [hy191]; exact H) | exact H
   have Ny191 := am hy191
   clear hy191
   have H' := am H
   clear H
   have p189 : 0 ≤ (x6_1 : Int) := of_decide_eq_true asw
   have q189 : x6_1 < (l0.length : Int) := of_decide_eq_true asw
   obtain ⟨ad189, e189, hx189_0⟩ := Kd.at_string HR0.out x6_1 p189 q189
   cases e189
   replace hx189_0 := upw HB.out hx189_0
   replace p189 := eq_true p189
   replace q189 := eq_true q189
   have p190 : 0 ≤ (x6_1 : Int) := of_decide_eq_true asw
   have q190 : x6_1 < (l0.length : Int) := of_decide_eq_true asw
   obtain ⟨ad190, e190, hx190_0⟩ := Kd.at_string HR0.out x6_1 p190 q190
   obtain rfl : ad189 = ad190 := (by injection e190)
   replace hx190_0 := upw HB.out hx190_0
   replace p190 := eq_true p190
   replace q190 := eq_true q190
   go_wp2_with (first | ((with_reducible refine gate_builtin (b := .append) (xs := #[.tmp 20, .tmp 25]) rfl ?_); at_builtin; refine Kd.R_append Kd.string (w0 := w) w.heap.size rfl (.tmp 20) (.tmp 25) 22 9 (.string ⟨#[]⟩) 16 rfl Tryd.underlying22 info9 rfl (by decide) (by omega) u5 x5_1 (rdOf ByteArray.empty l0 x6_1) [.string (rdOf ByteArray.empty l0 x6_1)] (fun _ => True) (fun _ => False) rfl rfl ?aP (fun _ hk => hk.elim) ?aF ?aO ?aB ?aS ?aL ?_; (case aP => exact rfl); (case aB => exact blw); (case aF => exact (fun _ _ => trivial)); (case aO => exact (by (with_reducible repeat (first | apply Kd.R_alloc | apply Kd.R_drewN | apply Kd.R_drew)); exact HO_5.out)); (case aS => exact (below_size blw)); (case aL => have := LMc8.out; omega); intro v192 w9 ho hb hg hat; rw [← Ny191.out] at ho; have n0_ := am (hb); have n1_ := am (ho); clear HB; clear HO_5; revert n0_ n1_; intro HB HO193; clear ho hb hg hat))
   go_roundg k1
   case measure => have := HK1.out; omega
   case rel => exact ⟨(y191), (wrap64 (x6_1 + 1)), rfs, H', ⟨by have := HK1.out; omega⟩, ⟨by (with_reducible repeat (first | apply Kd.R_alloc | apply Kd.R_drewN | apply Kd.R_drew)); exact HO193.out⟩, ⟨blw⟩⟩

mutual
def spec_FreeVars.l0 : Nat → List ByteArray → Int → Int → ByteArray → Int → Int → List ByteArray → List (S32) → List ByteArray → List (S35) → Option (List ByteArray)
 | 0, _, _, _, _, _, _, _, _, _, _ => none
 | k + 1, x3, x4, x195000, x195001, x195002, x195003, x195004, x195005, x195006, x195007 => if x4 < (x195007.length : Int) then (if 0 ≤ x4 then ((spec_FreeVars.f k ((rd_T35 x195007 x4).f0) ((rd_T35 x195007 x4).f1) ((rd_T35 x195007 x4).f2) ((rd_T35 x195007 x4).f3.f0) ((rd_T35 x195007 x4).f3.f1) ((rd_T35 x195007 x4).f3.f2) ((rd_T35 x195007 x4).f4) ((rd_T35 x195007 x4).f5)).bind fun t202 => ((spec_l11Binds.f k x195000 x195001 x195002 x195003 x195004 x195005 x195006 x195007).bind fun t205 => (if x4 = t205 then ((spec_l11Without.f k t202 x195001).bind fun t206 => ((spec_UniteNames.f k x3 t206).bind fun t209 => (spec_FreeVars.l0 k t209 (wrap64 (x4 + 1)) x195000 x195001 x195002 x195003 x195004 x195005 x195006 x195007))) else ((spec_UniteNames.f k x3 t202).bind fun t212 => (spec_FreeVars.l0 k t212 (wrap64 (x4 + 1)) x195000 x195001 x195002 x195003 x195004 x195005 x195006 x195007))))) else (none)) else (some x3)
def spec_FreeVars.f : Nat → Int → ByteArray → Int → Int → List ByteArray → List (S32) → List ByteArray → List (S35) → Option (List ByteArray)
 | 0, _, _, _, _, _, _, _, _ => none
 | k + 1, a0_0, a0_1, a0_2, a0_3, l0_4, l0_5, l0_6, l0_7 => if a0_0 = 1 then (some (([a0_1] : List ByteArray))) else (spec_FreeVars.l0 k (([] : List ByteArray)) 0 a0_0 a0_1 a0_2 a0_3 l0_4 l0_5 l0_6 l0_7)
end
theorem spec_FreeVars.calls (k : Nat) : ∀ (a0_0 : Int) (a0_1 : ByteArray) (a0_2 : Int) (a0_3 : Int) (A0_4 : Option Addr) (c0_4 : Nat) (l0_4 : List ByteArray) (A0_5 : Option Addr) (c0_5 : Nat) (l0_5 : List (S32)) (A0_6 : Option Addr) (c0_6 : Nat) (l0_6 : List ByteArray) (A0_7 : Option Addr) (c0_7 : Nat) (l0_7 : List (S35)) (r : List ByteArray) (w : World) (hr0_4 : Kd.C Kd.string w A0_4 l0_4.length l0_4) (hc0_4 : l0_4.length ≤ c0_4) (hr0_5 : Kd.C k32 w A0_5 l0_5.length l0_5) (hc0_5 : l0_5.length ≤ c0_5) (hr0_6 : Kd.C Kd.string w A0_6 l0_6.length l0_6) (hc0_6 : l0_6.length ≤ c0_6) (hr0_7 : Kd.C k35 w A0_7 l0_7.length l0_7) (hc0_7 : l0_7.length ≤ c0_7) (h : spec_FreeVars.f k a0_0 a0_1 a0_2 a0_3 l0_4 l0_5 l0_6 l0_7 = some r),
  Calls Tryd.prog 16 #[.agg #[.int .i64 a0_0, .string a0_1, .int .i64 a0_2, .int .i64 a0_3, .slice A0_4 l0_4.length c0_4, .slice A0_5 l0_5.length c0_5, .slice A0_6 l0_6.length c0_6, .slice A0_7 l0_7.length c0_7]] w fun e w' => ∃ v0_ : Value, e = .returned (v0_) ∧ Kd.R Kd.string 9 w' w.heap.size (fun _ => True) v0_ r ∧ Below w.heap.size w w' := by
 induction k using Nat.strongRecOn with
 | _ k ih =>
 intro a0_0 a0_1 a0_2 a0_3 A0_4 c0_4 l0_4 A0_5 c0_5 l0_5 A0_6 c0_6 l0_6 A0_7 c0_7 l0_7 r w hr0_4 hc0_4 hr0_5 hc0_5 hr0_6 hc0_6 hr0_7 hc0_7 h
 cases k with
 | zero => exact absurd h (by simp [spec_FreeVars.f])
 | succ k =>
 simp only [spec_FreeVars.f] at h
 have hu35 := Tryd.underlying35
 have HR0_4 := am hr0_4
 have HC0_4 := am hc0_4
 clear hr0_4 hc0_4
 have HR0_5 := am hr0_5
 have HC0_5 := am hc0_5
 clear hr0_5 hc0_5
 have HR0_6 := am hr0_6
 have HC0_6 := am hc0_6
 clear hr0_6 hc0_6
 have HR0_7 := am hr0_7
 have HC0_7 := am hc0_7
 clear hr0_7 hc0_7
 have HB := am (Below.refl w.heap.size w)
 have H : (if a0_0 = 1 then (some (([a0_1] : List ByteArray))) else (spec_FreeVars.l0 k (([] : List ByteArray)) 0 a0_0 a0_1 a0_2 a0_3 l0_4 l0_5 l0_6 l0_7)) = some r := h
 clear h
 by_cases c2 : a0_0 = 1
 ·rw [if_pos c2] at H
  have c2b0 : (a0_0 == 1) = true := beq_iff_eq.mpr c2
  have c2b1 : (a0_0 != 1) = false := bne_eq_false_iff_eq.mpr c2
  clear c2
  obtain ⟨y195, hy195⟩ : ∃ y_ : List ByteArray, y_ = (([a0_1] : List ByteArray)) := ⟨_, rfl⟩
  replace H : (some y195) = some r := by first | (rw [hy195]; with_reducible exact H) | (have H2_ := (Option.bind_some _ _).symm.trans H; rw [hy195]; with_reducible exact H2_) | (have H2_ := (Option.bind_some _ _).symm.trans H; with_reducible exact H2_) | with_reducible exact H | (rw [hy195]; exact H) | exact H
  have Ny195 := am hy195
  clear hy195
  obtain rfl := Option.some.inj H
  go_enter Tryd.func16, Tryd.ntmps16
  go_wp2_with (first | ((with_reducible refine gate_dst (N := 1) rfl ?_); refine box_event ?hg (N := 1) ?hd (cs := #[.int .i64 a0_0, .string a0_1, .int .i64 a0_2, .int .i64 a0_3, .slice A0_4 l0_4.length c0_4, .slice A0_5 l0_5.length c0_5, .slice A0_6 l0_6.length c0_6, .slice A0_7 l0_7.length c0_7]) (t := 35) ?hr ?_; (case hd => rfl); (case hg => rfl); (case hr => exact hrw); intro gb194 hg w3 hbox hb; have n0_ := am (below_step blw hb); have n1_ := am (hbox); have n2_ := am ((by rw [hg]; exact (below_size blw) : w.heap.size ≤ gb194)); have n3_ := n2_; clear HB; revert n0_ n1_ n2_ n3_; intro HB BK194 GW194 GE194; clear hb hbox hg; obtain ⟨hcz4_0, hcz4_1, hcz4_2, hcz4_3, hcz4_4, hcz4_5, hcz4_6, hcz4_7⟩ := cls8 BK194.out; obtain ⟨hfz4_0, hfz4_1, hfz4_2, hfz4_3, hfz4_4, hfz4_5, hfz4_6, hfz4_7⟩ := frz8 BK194.out) | ((with_reducible refine gate_dst (N := 11) rfl ?_); refine Kd.R_lit Kd.string _ 9 ?hg (N := 11) ?hd (xs := ([a0_1] : List ByteArray)) (inner := [.string a0_1]) (ok := fun _ => True) (okp := fun _ => True) ?hr ?hp (fun _ hk => hk) trivial (Below.refl _ _) (Nat.le_refl _) (by simp) ?_; (case hd => rfl); (case hg => rfl); (case hr => exact hrw); (case hp => exact (Reps.one (show Kd.M Kd.string _ _ _ a0_1 [.string a0_1] from rfl) (Reps.none _ _))); intro v196 w5 ho6 hb hg_ hnew_; clear hg_ hnew_; (first | rw [← Ny195.out] at ho6 | (simp only [Int.reduceToNat] at ho6; rw [← Ny195.out] at ho6)); have n0_ := am (Kd.R_lower ho6 (below_size blw)); have n1_ := am (blk_below (g := gb194) bkw hb); have n2_ := am (below_step blw hb); clear BK194; clear HB; revert n0_ n1_ n2_; intro HO197 BK194 HB; clear hb ho6))
  go_ret
  exact ⟨_, rfw, by (with_reducible repeat (first | apply Kd.R_alloc | apply Kd.R_drewN | apply Kd.R_drew)); exact HO197.out, blw⟩
 rw [if_neg c2] at H
 have c2b0 : (a0_0 == 1) = false := beq_eq_false_iff_ne.mpr c2
 have c2b1 : (a0_0 != 1) = true := bne_iff_ne.mpr c2
 obtain ⟨y198, hy198⟩ : ∃ y_ : List ByteArray, y_ = (([] : List ByteArray)) := ⟨_, rfl⟩
 replace H : (spec_FreeVars.l0 k y198 0 a0_0 a0_1 a0_2 a0_3 l0_4 l0_5 l0_6 l0_7) = some r := by first | (rw [hy198]; with_reducible exact H) | (have H2_ := (Option.bind_some _ _).symm.trans H; rw [hy198]; with_reducible exact H2_) | (have H2_ := (Option.bind_some _ _).symm.trans H; with_reducible exact H2_) | with_reducible exact H | (rw [hy198]; exact H) | exact H
 have Ny198 := am hy198
 clear hy198
 have H' := am H
 clear H
 go_enter Tryd.func16, Tryd.ntmps16
 go_wp2_with (first | ((with_reducible refine gate_dst (N := 1) rfl ?_); refine box_event ?hg (N := 1) ?hd (cs := #[.int .i64 a0_0, .string a0_1, .int .i64 a0_2, .int .i64 a0_3, .slice A0_4 l0_4.length c0_4, .slice A0_5 l0_5.length c0_5, .slice A0_6 l0_6.length c0_6, .slice A0_7 l0_7.length c0_7]) (t := 35) ?hr ?_; (case hd => rfl); (case hg => rfl); (case hr => exact hrw); intro gb194 hg w7 hbox hb; have n0_ := am (below_step blw hb); have n1_ := am (hbox); have n2_ := am ((by rw [hg]; exact (below_size blw) : w.heap.size ≤ gb194)); have n3_ := n2_; clear HB; revert n0_ n1_ n2_ n3_; intro HB BK194 GW194 GE194; clear hb hbox hg; obtain ⟨hcz8_0, hcz8_1, hcz8_2, hcz8_3, hcz8_4, hcz8_5, hcz8_6, hcz8_7⟩ := cls8 BK194.out; obtain ⟨hfz8_0, hfz8_1, hfz8_2, hfz8_3, hfz8_4, hfz8_5, hfz8_6, hfz8_7⟩ := frz8 BK194.out) | ((with_reducible refine gate_dst (N := 12) rfl ?_); refine Kd.R_lit Kd.string _ 9 ?hg (N := 12) ?hd (xs := ([] : List ByteArray)) (inner := []) (ok := fun _ => True) (okp := fun _ => True) ?hr ?hp (fun _ hk => hk) trivial (Below.refl _ _) (Nat.le_refl _) (by simp) ?_; (case hd => rfl); (case hg => rfl); (case hr => exact hrw); (case hp => exact (Reps.none _ _)); intro v199 w9 ho10 hb hg_ hnew_; clear hg_ hnew_; (first | rw [← Ny198.out] at ho10 | (simp only [Int.reduceToNat] at ho10; rw [← Ny198.out] at ho10)); have n0_ := am (Kd.R_lower ho10 (below_size blw)); have n1_ := am (blk_below (g := gb194) bkw hb); have n2_ := am (below_step blw hb); clear BK194; clear HB; revert n0_ n1_ n2_; intro HO200 BK194 HB; clear hb ho10))
 go_loopg [3, 4] k (fun kq v3 v4 w' => ∃ (x3_1 : List ByteArray) (x4_1 : Int), v4 = .int .i64 x4_1 ∧ Aside0 (spec_FreeVars.l0 kq x3_1 x4_1 a0_0 a0_1 a0_2 a0_3 l0_4 l0_5 l0_6 l0_7 = some r) ∧ Aside0 (kq ≤ k) ∧ Aside0 (Kd.R Kd.string 9 w' w.heap.size (fun _ => True) v3 x3_1) ∧ Aside0 (w'.heap[gb194]? = some (.cells #[.int .i64 a0_0, .string a0_1, .int .i64 a0_2, .int .i64 a0_3, (.slice A0_4 l0_4.length c0_4), (.slice A0_5 l0_5.length c0_5), (.slice A0_6 l0_6.length c0_6), (.slice A0_7 l0_7.length c0_7)] 35 (0, 0))) ∧ Aside0 (Below w.heap.size w w'))
 case atStart => exact ⟨(y198), (0), rfs, H', ⟨Nat.le_refl _⟩, ⟨by (with_reducible repeat (first | apply Kd.R_alloc | apply Kd.R_drewN | apply Kd.R_drew)); exact HO200.out⟩, ⟨bkw⟩, ⟨blw⟩⟩
 case round =>
  clear H'
  (try clear c1); (try clear c2); (try clear c2b0); (try clear c2b1); (try clear p2); (try clear hcz4_0 hcz4_1 hcz4_2 hcz4_3 hcz4_4 hcz4_5 hcz4_6 hcz4_7); (try clear hcz8_0 hcz8_1 hcz8_2 hcz8_3 hcz8_4 hcz8_5 hcz8_6 hcz8_7); (try clear hfz4_0 hfz4_1 hfz4_2 hfz4_3 hfz4_4 hfz4_5 hfz4_6 hfz4_7); (try clear hfz8_0 hfz8_1 hfz8_2 hfz8_3 hfz8_4 hfz8_5 hfz8_6 hfz8_7)
  obtain ⟨x3_1, x4_1, rfl, HA, HK1, HO_3, BK194, HB⟩ := hrel
  cases gk with
  | zero => exact absurd HA.out (by simp [spec_FreeVars.l0])
  | succ k1 =>
   have H := HA.out
   clear HA
   simp only [spec_FreeVars.l0] at H
   by_cases c11 : x4_1 < (l0_7.length : Int)
   case neg =>
    rw [if_neg c11] at H
    have c11b0 : decide (x4_1 < (l0_7.length : Int)) = false := decide_eq_false c11
    clear c11
    obtain rfl := Option.some.inj H
    obtain ⟨hcz33_0, hcz33_1, hcz33_2, hcz33_3, hcz33_4, hcz33_5, hcz33_6, hcz33_7⟩ := cls8 BK194.out
    obtain ⟨hfz33_0, hfz33_1, hfz33_2, hfz33_3, hfz33_4, hfz33_5, hfz33_6, hfz33_7⟩ := frz8 BK194.out
    go_wp2
    go_ret
    exact ⟨_, rfw, by (with_reducible repeat (first | apply Kd.R_alloc | apply Kd.R_drewN | apply Kd.R_drew)); exact HO_3.out, blw⟩
   rw [if_pos c11] at H
   have c11b0 : decide (x4_1 < (l0_7.length : Int)) = true := decide_eq_true c11
   clear c11
   by_cases c12 : 0 ≤ x4_1
   case neg =>
    rw [if_neg c12] at H
    exact absurd H (by simp)
   rw [if_pos c12] at H
   have c12b0 : decide (0 ≤ x4_1) = true := decide_eq_true c12
   clear c12
   replace H := Option.bind_eq_some_iff.mp H
   obtain ⟨t202, A130, H⟩ := H
   replace H : ((spec_l11Binds.f k1 a0_0 a0_1 a0_2 a0_3 l0_4 l0_5 l0_6 l0_7).bind fun t205 => (if x4_1 = t205 then ((spec_l11Without.f k1 t202 a0_1).bind fun t206 => ((spec_UniteNames.f k1 x3_1 t206).bind fun t209 => (spec_FreeVars.l0 k1 t209 (wrap64 (x4_1 + 1)) a0_0 a0_1 a0_2 a0_3 l0_4 l0_5 l0_6 l0_7))) else ((spec_UniteNames.f k1 x3_1 t202).bind fun t212 => (spec_FreeVars.l0 k1 t212 (wrap64 (x4_1 + 1)) a0_0 a0_1 a0_2 a0_3 l0_4 l0_5 l0_6 l0_7)))) = some r := H
   have A13 := am A130
   clear A130
   replace H := Option.bind_eq_some_iff.mp H
   obtain ⟨t205, A140, H⟩ := H
   replace H : (if x4_1 = t205 then ((spec_l11Without.f k1 t202 a0_1).bind fun t206 => ((spec_UniteNames.f k1 x3_1 t206).bind fun t209 => (spec_FreeVars.l0 k1 t209 (wrap64 (x4_1 + 1)) a0_0 a0_1 a0_2 a0_3 l0_4 l0_5 l0_6 l0_7))) else ((spec_UniteNames.f k1 x3_1 t202).bind fun t212 => (spec_FreeVars.l0 k1 t212 (wrap64 (x4_1 + 1)) a0_0 a0_1 a0_2 a0_3 l0_4 l0_5 l0_6 l0_7))) = some r := H
   have A14 := am A140
   clear A140
   have HC15 := am H
   clear H
   obtain ⟨hcz16_0, hcz16_1, hcz16_2, hcz16_3, hcz16_4, hcz16_5, hcz16_6, hcz16_7⟩ := cls8 BK194.out
   obtain ⟨hfz16_0, hfz16_1, hfz16_2, hfz16_3, hfz16_4, hfz16_5, hfz16_6, hfz16_7⟩ := frz8 BK194.out
   have p201 : 0 ≤ (x4_1 : Int) := of_decide_eq_true asw
   have q201 : x4_1 < (l0_7.length : Int) := of_decide_eq_true asw
   obtain ⟨ad201, A201_4, c201_4, A201_5, c201_5, A201_6, c201_6, A201_7, c201_7, e201, hx201_0, hx201_1, hx201_2, hx201_3, hx201_4, hx201_5, hx201_6, hx201_7, hl201_4, hi201_4, hl201_5, hi201_5, hl201_6, hi201_6, hl201_7, hi201_7⟩ := at_T35 HR0_7.out x4_1 p201 q201
   cases e201
   replace hx201_0 := upw HB.out hx201_0
   replace hx201_1 := upw HB.out hx201_1
   replace hx201_2 := upw HB.out hx201_2
   replace hx201_3 := upw HB.out hx201_3
   replace hx201_4 := upw HB.out hx201_4
   replace hx201_5 := upw HB.out hx201_5
   replace hx201_6 := upw HB.out hx201_6
   replace hx201_7 := upw HB.out hx201_7
   have HR201_4 := am hi201_4
   have HC201_4 := am hl201_4
   clear hi201_4 hl201_4
   have HR201_5 := am hi201_5
   have HC201_5 := am hl201_5
   clear hi201_5 hl201_5
   have HR201_6 := am hi201_6
   have HC201_6 := am hl201_6
   clear hi201_6 hl201_6
   have HR201_7 := am hi201_7
   have HC201_7 := am hl201_7
   clear hi201_7 hl201_7
   replace p201 := eq_true p201
   replace q201 := eq_true q201
   go_upto_if 29 with (first | ((with_reducible refine gate_callee (f := 16) rfl ?_); refine goesL_ (some 25) rfl rfl Tryd.func16 kr rfl #[.agg #[.int .i64 ((rd_T35 l0_7 x4_1).f0), .string ((rd_T35 l0_7 x4_1).f1), .int .i64 ((rd_T35 l0_7 x4_1).f2), .int .i64 ((rd_T35 l0_7 x4_1).f3.f0), .slice A201_4 ((rd_T35 l0_7 x4_1).f3.f1).length c201_4, .slice A201_5 ((rd_T35 l0_7 x4_1).f3.f2).length c201_5, .slice A201_6 ((rd_T35 l0_7 x4_1).f4).length c201_6, .slice A201_7 ((rd_T35 l0_7 x4_1).f5).length c201_7]] rfl mpw ?_; (with_reducible refine (ih k1 (by have := HK1.out; omega) ((rd_T35 l0_7 x4_1).f0) ((rd_T35 l0_7 x4_1).f1) ((rd_T35 l0_7 x4_1).f2) ((rd_T35 l0_7 x4_1).f3.f0) _ _ ((rd_T35 l0_7 x4_1).f3.f1) _ _ ((rd_T35 l0_7 x4_1).f3.f2) _ _ ((rd_T35 l0_7 x4_1).f4) _ _ ((rd_T35 l0_7 x4_1).f5) t202 _ ?side1 ?side2 ?side3 ?side4 ?side5 ?side6 ?side7 ?side8 A13.out).mono ?_); (case side1 => have X_ := HR201_4; exact cbl); (case side2 => exact HC201_4.out); (case side3 => have X_ := HR201_5; exact cbl); (case side4 => exact HC201_5.out); (case side5 => have X_ := HR201_6; exact cbl); (case side6 => exact HC201_6.out); (case side7 => have X_ := HR201_7; exact cbl); (case side8 => exact HC201_7.out); rintro e w17 ⟨v203, rfl, ho0, hb⟩; refine ⟨_, rfl, ?_⟩; have n0_ := am (Kd.R_elder' (by (with_reducible repeat (first | apply Kd.R_alloc | apply Kd.R_drewN | apply Kd.R_drew)); exact HO_3.out) (Kd.R_base ho0) hb); have n1_ := am (Kd.R_lower (Kd.R_new' ho0 (Kd.R_lt (by (with_reducible repeat (first | apply Kd.R_alloc | apply Kd.R_drewN | apply Kd.R_drew)); exact HO_3.out))) (below_size blw)); have n2_ := am (blk_below (g := gb194) bkw hb); have n3_ := am (below_step blw hb); clear HO_3; clear BK194; clear HB; revert n0_ n1_ n2_ n3_; intro HO_3 HO204 BK194 HB; (try clear hb); (try clear hb2); (try clear hk); (try clear hi); (try clear ho0); obtain ⟨hcz18_0, hcz18_1, hcz18_2, hcz18_3, hcz18_4, hcz18_5, hcz18_6, hcz18_7⟩ := cls8 BK194.out; obtain ⟨hfz18_0, hfz18_1, hfz18_2, hfz18_3, hfz18_4, hfz18_5, hfz18_6, hfz18_7⟩ := frz8 BK194.out) | ((with_reducible refine gate_callee (f := 15) rfl ?_); refine goesL_ (some 28) rfl rfl Tryd.func15 kr rfl #[.agg #[.int .i64 a0_0, .string a0_1, .int .i64 a0_2, .int .i64 a0_3, .slice A0_4 l0_4.length c0_4, .slice A0_5 l0_5.length c0_5, .slice A0_6 l0_6.length c0_6, .slice (some ad201) l0_7.length c0_7]] rfl mpw ?_; (with_reducible refine (spec_l11Binds.calls k1 a0_0 a0_1 a0_2 a0_3 _ _ l0_4 _ _ l0_5 _ _ l0_6 _ _ l0_7 t205 _ ?side1 ?side2 ?side3 ?side4 ?side5 ?side6 ?side7 ?side8 A14.out).mono ?_); (case side1 => have X_ := HR0_4; exact cbl); (case side2 => exact HC0_4.out); (case side3 => have X_ := HR0_5; exact cbl); (case side4 => exact HC0_5.out); (case side5 => have X_ := HR0_6; exact cbl); (case side6 => exact HC0_6.out); (case side7 => have X_ := HR0_7; exact cbl); (case side8 => exact HC0_7.out); rintro e w19 ⟨rfl, hb⟩; refine ⟨_, rfl, ?_⟩; have n0_ := am (Kd.R_below (by (with_reducible repeat (first | apply Kd.R_alloc | apply Kd.R_drewN | apply Kd.R_drew)); exact HO_3.out) hb); have n1_ := am (Kd.R_below (by (with_reducible repeat (first | apply Kd.R_alloc | apply Kd.R_drewN | apply Kd.R_drew)); exact HO204.out) hb); have n2_ := am (blk_below (g := gb194) bkw hb); have n3_ := am (below_step blw hb); clear HO_3; clear HO204; clear BK194; clear HB; revert n0_ n1_ n2_ n3_; intro HO_3 HO204 BK194 HB; (try clear hb); (try clear hb2); (try clear hk); (try clear hi)))
   have H := HC15.out
   clear HC15
   by_cases c20 : x4_1 = t205
   case neg =>
    rw [if_neg c20] at H
    have c20b0 : (x4_1 == t205) = false := beq_eq_false_iff_ne.mpr c20
    have c20b1 : (x4_1 != t205) = true := bne_iff_ne.mpr c20
    (first | rw [c20b0] | (simp only [i64_w, i32_w]; rw [c20b0]) | (rw [c20b1]; (try simp only [Bool.not_true, Bool.not_false])) | skip)
    replace H := Option.bind_eq_some_iff.mp H
    obtain ⟨t212, A290, H⟩ := H
    replace H : (spec_FreeVars.l0 k1 t212 (wrap64 (x4_1 + 1)) a0_0 a0_1 a0_2 a0_3 l0_4 l0_5 l0_6 l0_7) = some r := H
    have A29 := am A290
    clear A290
    have H' := am H
    clear H
    obtain ⟨Ao30, co30, eo30⟩ := Kd.R_slice HO_3.out
    subst eo30
    obtain ⟨Ao31, co31, eo31⟩ := Kd.R_slice HO204.out
    subst eo31
    go_wp2_with (first | ((with_reducible refine gate_callee (f := 19) rfl ?_); refine goesL_ (some 36) rfl rfl Tryd.func19 kr rfl #[.slice Ao30 x3_1.length co30, .slice Ao31 t202.length co31] rfl mpw ?_; (with_reducible refine (spec_UniteNames.calls k1 _ _ x3_1 _ _ t202 t212 _ ?side1 ?side2 ?side3 ?side4 A29.out).mono ?_); (case side1 => repeat (first | exact (Kd.R_reads' HO_3.out).2.2 | (with_reducible refine Kd.C_alloc ?_ _) | (with_reducible refine Kd.C_drewN ?_ _) | (with_reducible refine Kd.C_drew ?_))); (case side2 => exact (Kd.R_reads' HO_3.out).2.1); (case side3 => repeat (first | exact (Kd.R_reads' HO204.out).2.2 | (with_reducible refine Kd.C_alloc ?_ _) | (with_reducible refine Kd.C_drewN ?_ _) | (with_reducible refine Kd.C_drew ?_))); (case side4 => exact (Kd.R_reads' HO204.out).2.1); rintro e w32 ⟨v213, rfl, ho0, hb⟩; refine ⟨_, rfl, ?_⟩; have n0_ := am (Kd.R_elder' (by (with_reducible repeat (first | apply Kd.R_alloc | apply Kd.R_drewN | apply Kd.R_drew)); exact HO_3.out) (Kd.R_base ho0) hb); have n1_ := am (Kd.R_elder' (by (with_reducible repeat (first | apply Kd.R_alloc | apply Kd.R_drewN | apply Kd.R_drew)); exact HO204.out) (Kd.R_base ho0) hb); have n2_ := am (Kd.R_lower (Kd.R_new' (Kd.R_new' ho0 (Kd.R_lt (by (with_reducible repeat (first | apply Kd.R_alloc | apply Kd.R_drewN | apply Kd.R_drew)); exact HO_3.out))) (Kd.R_lt (by (with_reducible repeat (first | apply Kd.R_alloc | apply Kd.R_drewN | apply Kd.R_drew)); exact HO204.out))) (below_size blw)); have n3_ := am (blk_below (g := gb194) bkw hb); have n4_ := am (below_step blw hb); clear HO_3; clear HO204; clear BK194; clear HB; revert n0_ n1_ n2_ n3_ n4_; intro HO_3 HO204 HO214 BK194 HB; (try clear hb); (try clear hb2); (try clear hk); (try clear hi); (try clear ho0)))
    go_roundg k1
    case measure => have := HK1.out; omega
    case rel => exact ⟨(t212), (wrap64 (x4_1 + 1)), rfs, H', ⟨by have := HK1.out; omega⟩, ⟨by (with_reducible repeat (first | apply Kd.R_alloc | apply Kd.R_drewN | apply Kd.R_drew)); exact Kd.R_mono HO214.out (fun _ hk => trivial)⟩, ⟨bkw⟩, ⟨blw⟩⟩
   rw [if_pos c20] at H
   have c20b0 : (x4_1 == t205) = true := beq_iff_eq.mpr c20
   have c20b1 : (x4_1 != t205) = false := bne_eq_false_iff_eq.mpr c20
   clear c20
   (first | rw [c20b0] | (simp only [i64_w, i32_w]; rw [c20b0]) | (rw [c20b1]; (try simp only [Bool.not_true, Bool.not_false])) | skip)
   replace H := Option.bind_eq_some_iff.mp H
   obtain ⟨t206, A210, H⟩ := H
   replace H : ((spec_UniteNames.f k1 x3_1 t206).bind fun t209 => (spec_FreeVars.l0 k1 t209 (wrap64 (x4_1 + 1)) a0_0 a0_1 a0_2 a0_3 l0_4 l0_5 l0_6 l0_7)) = some r := H
   have A21 := am A210
   clear A210
   replace H := Option.bind_eq_some_iff.mp H
   obtain ⟨t209, A220, H⟩ := H
   replace H : (spec_FreeVars.l0 k1 t209 (wrap64 (x4_1 + 1)) a0_0 a0_1 a0_2 a0_3 l0_4 l0_5 l0_6 l0_7) = some r := H
   have A22 := am A220
   clear A220
   have H' := am H
   clear H
   obtain ⟨hcz23_0, hcz23_1, hcz23_2, hcz23_3, hcz23_4, hcz23_5, hcz23_6, hcz23_7⟩ := cls8 BK194.out
   obtain ⟨hfz23_0, hfz23_1, hfz23_2, hfz23_3, hfz23_4, hfz23_5, hfz23_6, hfz23_7⟩ := frz8 BK194.out
   obtain ⟨Ao24, co24, eo24⟩ := Kd.R_slice HO204.out
   subst eo24
   go_wp2_with (first | ((with_reducible refine gate_callee (f := 43) rfl ?_); refine goesL_ (some 33) rfl rfl Tryd.func43 kr rfl #[.slice Ao24 t202.length co24, .string a0_1] rfl mpw ?_; (with_reducible refine (spec_l11Without.calls k1 _ _ t202 a0_1 t206 _ ?side1 ?side2 A21.out).mono ?_); (case side1 => repeat (first | exact (Kd.R_reads' HO204.out).2.2 | (with_reducible refine Kd.C_alloc ?_ _) | (with_reducible refine Kd.C_drewN ?_ _) | (with_reducible refine Kd.C_drew ?_))); (case side2 => exact (Kd.R_reads' HO204.out).2.1); rintro e w25 ⟨v207, rfl, ho0, hb⟩; refine ⟨_, rfl, ?_⟩; have n0_ := am (Kd.R_elder' (by (with_reducible repeat (first | apply Kd.R_alloc | apply Kd.R_drewN | apply Kd.R_drew)); exact HO_3.out) (Kd.R_base ho0) hb); have n1_ := am (Kd.R_elder' (by (with_reducible repeat (first | apply Kd.R_alloc | apply Kd.R_drewN | apply Kd.R_drew)); exact HO204.out) (Kd.R_base ho0) hb); have n2_ := am (Kd.R_lower (Kd.R_new' (Kd.R_new' ho0 (Kd.R_lt (by (with_reducible repeat (first | apply Kd.R_alloc | apply Kd.R_drewN | apply Kd.R_drew)); exact HO_3.out))) (Kd.R_lt (by (with_reducible repeat (first | apply Kd.R_alloc | apply Kd.R_drewN | apply Kd.R_drew)); exact HO204.out))) (below_size blw)); have n3_ := am (blk_below (g := gb194) bkw hb); have n4_ := am (below_step blw hb); clear HO_3; clear HO204; clear BK194; clear HB; revert n0_ n1_ n2_ n3_ n4_; intro HO_3 HO204 HO208 BK194 HB; (try clear hb); (try clear hb2); (try clear hk); (try clear hi); (try clear ho0); obtain ⟨Ao26, co26, eo26⟩ := Kd.R_slice HO_3.out; subst eo26; obtain ⟨Ao27, co27, eo27⟩ := Kd.R_slice HO208.out; subst eo27) | ((with_reducible refine gate_callee (f := 19) rfl ?_); refine goesL_ (some 36) rfl rfl Tryd.func19 kr rfl #[.slice Ao26 x3_1.length co26, .slice Ao27 t206.length co27] rfl mpw ?_; (with_reducible refine (spec_UniteNames.calls k1 _ _ x3_1 _ _ t206 t209 _ ?side1 ?side2 ?side3 ?side4 A22.out).mono ?_); (case side1 => repeat (first | exact (Kd.R_reads' HO_3.out).2.2 | (with_reducible refine Kd.C_alloc ?_ _) | (with_reducible refine Kd.C_drewN ?_ _) | (with_reducible refine Kd.C_drew ?_))); (case side2 => exact (Kd.R_reads' HO_3.out).2.1); (case side3 => repeat (first | exact (Kd.R_reads' HO208.out).2.2 | (with_reducible refine Kd.C_alloc ?_ _) | (with_reducible refine Kd.C_drewN ?_ _) | (with_reducible refine Kd.C_drew ?_))); (case side4 => exact (Kd.R_reads' HO208.out).2.1); rintro e w28 ⟨v210, rfl, ho0, hb⟩; refine ⟨_, rfl, ?_⟩; have n0_ := am (Kd.R_elder' (by (with_reducible repeat (first | apply Kd.R_alloc | apply Kd.R_drewN | apply Kd.R_drew)); exact HO_3.out) (Kd.R_base ho0) hb); have n1_ := am (Kd.R_elder' (by (with_reducible repeat (first | apply Kd.R_alloc | apply Kd.R_drewN | apply Kd.R_drew)); exact HO204.out) (Kd.R_base ho0) hb); have n2_ := am (Kd.R_elder' (by (with_reducible repeat (first | apply Kd.R_alloc | apply Kd.R_drewN | apply Kd.R_drew)); exact HO208.out) (Kd.R_base ho0) hb); have n3_ := am (Kd.R_lower (Kd.R_new' (Kd.R_new' (Kd.R_new' ho0 (Kd.R_lt (by (with_reducible repeat (first | apply Kd.R_alloc | apply Kd.R_drewN | apply Kd.R_drew)); exact HO_3.out))) (Kd.R_lt (by (with_reducible repeat (first | apply Kd.R_alloc | apply Kd.R_drewN | apply Kd.R_drew)); exact HO204.out))) (Kd.R_lt (by (with_reducible repeat (first | apply Kd.R_alloc | apply Kd.R_drewN | apply Kd.R_drew)); exact HO208.out))) (below_size blw)); have n4_ := am (blk_below (g := gb194) bkw hb); have n5_ := am (below_step blw hb); clear HO_3; clear HO204; clear HO208; clear BK194; clear HB; revert n0_ n1_ n2_ n3_ n4_ n5_; intro HO_3 HO204 HO208 HO211 BK194 HB; (try clear hb); (try clear hb2); (try clear hk); (try clear hi); (try clear ho0)))
   go_roundg k1
   case measure => have := HK1.out; omega
   case rel => exact ⟨(t209), (wrap64 (x4_1 + 1)), rfs, H', ⟨by have := HK1.out; omega⟩, ⟨by (with_reducible repeat (first | apply Kd.R_alloc | apply Kd.R_drewN | apply Kd.R_drew)); exact Kd.R_mono HO211.out (fun _ hk => trivial)⟩, ⟨bkw⟩, ⟨blw⟩⟩

def spec_FormatInt.l0 : Nat → Int → Bool → ByteArray → Option (ByteArray)
 | 0, _, _, _ => none
 | k + 1, x0, x3, x4 => if x0 = 0 then (if x3 = true then (if 1 + x4.size ≤ 9223372036854775807 then (some ((⟨#[45]⟩ : ByteArray) ++ x4)) else (none)) else (some x4)) else (if (Int.tmod x0 10) < 0 then ((some (([(wrap64 (48 + (wrap64 (-(Int.tmod x0 10))))) % 256] : List Int) : List Int)).bind fun y215 => (if (strOfNums y215).size + x4.size ≤ 9223372036854775807 then (spec_FormatInt.l0 k (wrap64 (Int.tdiv x0 10)) x3 ((strOfNums y215) ++ x4)) else (none))) else ((some (([(wrap64 (48 + (Int.tmod x0 10))) % 256] : List Int) : List Int)).bind fun y218 => (if (strOfNums y218).size + x4.size ≤ 9223372036854775807 then (spec_FormatInt.l0 k (wrap64 (Int.tdiv x0 10)) x3 ((strOfNums y218) ++ x4)) else (none))))
def spec_FormatInt.f (k : Nat) (a0 : Int) : Option (ByteArray) := if a0 = 0 then (some (⟨#[48]⟩ : ByteArray)) else (spec_FormatInt.l0 k a0 (decide (a0 < 0)) (⟨#[]⟩ : ByteArray))
theorem spec_FormatInt.calls (k : Nat) (a0 : Int) (r : ByteArray) (w : World) (h : spec_FormatInt.f k a0 = some r) :
  Calls Tryd.prog 44 #[.int .i64 a0] w fun e w' => e = .returned (.string r) ∧ Below w.heap.size w w' := by
 have HB := am (Below.refl w.heap.size w)
 have H : (if a0 = 0 then (some (⟨#[48]⟩ : ByteArray)) else (spec_FormatInt.l0 k a0 (decide (a0 < 0)) (⟨#[]⟩ : ByteArray))) = some r := h
 clear h
 by_cases c2 : a0 = 0
 ·rw [if_pos c2] at H
  have c2b0 : (a0 == 0) = true := beq_iff_eq.mpr c2
  have c2b1 : (a0 != 0) = false := bne_eq_false_iff_eq.mpr c2
  clear c2
  obtain rfl := Option.some.inj H
  go_enter Tryd.func44, Tryd.ntmps44
  go_wp2
  go_ret
  exact ⟨rfw, blw⟩
 rw [if_neg c2] at H
 have c2b0 : (a0 == 0) = false := beq_eq_false_iff_ne.mpr c2
 have c2b1 : (a0 != 0) = true := bne_iff_ne.mpr c2
 have H' := am H
 clear H
 go_enter Tryd.func44, Tryd.ntmps44
 go_wp2
 go_loopg [0, 4] k (fun kq v0 v4 w' => ∃ (x0_1 : Int) (x4_1 : ByteArray), v0 = .int .i64 x0_1 ∧ v4 = .string x4_1 ∧ Aside0 (spec_FormatInt.l0 kq x0_1 (decide (a0 < 0)) x4_1 = some r) ∧ Aside0 (kq ≤ k) ∧ Aside0 (Below w.heap.size w w'))
 case atStart => exact ⟨(a0), ((⟨#[]⟩ : ByteArray)), rfs, rfs, H', ⟨Nat.le_refl _⟩, ⟨blw⟩⟩
 case round =>
  clear H'
  (try clear c2); (try clear c2b0); (try clear c2b1); (try clear p2)
  obtain ⟨x0_1, x4_1, rfl, rfl, HA, HK1, HB⟩ := hrel
  cases gk with
  | zero => exact absurd HA.out (by simp [spec_FormatInt.l0])
  | succ k1 =>
   have H := HA.out
   clear HA
   simp only [spec_FormatInt.l0] at H
   by_cases c3 : x0_1 = 0
   ·rw [if_pos c3] at H
    have c3b0 : (x0_1 == 0) = true := beq_iff_eq.mpr c3
    have c3b1 : (x0_1 != 0) = false := bne_eq_false_iff_eq.mpr c3
    clear c3
    by_cases c4 : (decide (a0 < 0)) = true
    case neg =>
     rw [if_neg c4] at H
     have c4b0 : (decide (a0 < 0)) = false := by simpa using c4
     clear c4
     try simp only [c4b0]
     obtain rfl := Option.some.inj H
     go_wp2
     go_ret
     exact ⟨rfw, blw⟩
    rw [if_pos c4] at H
    have c4b0 : (decide (a0 < 0)) = true := c4
    clear c4
    try simp only [c4b0]
    by_cases c5 : 1 + x4_1.size ≤ 9223372036854775807
    case neg =>
     rw [if_neg c5] at H
     exact absurd H (by simp)
    rw [if_pos c5] at H
    have c5b0 := eq_true c5
    have c5b1 : decide (1 + x4_1.size ≤ 9223372036854775807) = true := decide_eq_true c5
    try have c5b2 : (9223372036854775807 < 1 + x4_1.size) = False := eq_false (Nat.not_lt.2 c5)
    obtain rfl := Option.some.inj H
    go_wp2
    go_ret
    exact ⟨rfw, blw⟩
   rw [if_neg c3] at H
   have c3b0 : (x0_1 == 0) = false := beq_eq_false_iff_ne.mpr c3
   have c3b1 : (x0_1 != 0) = true := bne_iff_ne.mpr c3
   by_cases c6 : (Int.tmod x0_1 10) < 0
   case neg =>
    rw [if_neg c6] at H
    have c6b0 : decide ((Int.tmod x0_1 10) < 0) = false := decide_eq_false c6
    clear c6
    obtain ⟨y218, hy218⟩ : ∃ y_ : List Int, y_ = (([(wrap64 (48 + (Int.tmod x0_1 10))) % 256] : List Int)) := ⟨_, rfl⟩
    replace H : (if (strOfNums y218).size + x4_1.size ≤ 9223372036854775807 then (spec_FormatInt.l0 k1 (wrap64 (Int.tdiv x0_1 10)) (decide (a0 < 0)) ((strOfNums y218) ++ x4_1)) else (none)) = some r := by first | (rw [hy218]; with_reducible exact H) | (have H2_ := (Option.bind_some _ _).symm.trans H; rw [hy218]; with_reducible exact H2_) | (have H2_ := (Option.bind_some _ _).symm.trans H; with_reducible exact H2_) | with_reducible exact H | (rw [hy218]; exact H) | exact H
    have Ny218 := am hy218
    clear hy218
    by_cases c11 : (strOfNums y218).size + x4_1.size ≤ 9223372036854775807
    case neg =>
     rw [if_neg c11] at H
     exact absurd H (by simp)
    rw [if_pos c11] at H
    have c11b0 := eq_true c11
    have c11b1 : decide ((strOfNums y218).size + x4_1.size ≤ 9223372036854775807) = true := decide_eq_true c11
    try have c11b2 : (9223372036854775807 < (strOfNums y218).size + x4_1.size) = False := eq_false (Nat.not_lt.2 c11)
    have H' := am H
    clear H
    go_wp2_with (first | ((with_reducible refine gate_dst (N := 21) rfl ?_); refine Kd.R_lit (Kd.int .u8) _ 5 ?hg (N := 21) ?hd (xs := ([(wrap64 (48 + (Int.tmod x0_1 10))) % 256] : List Int)) (inner := [.int .u8 ((wrap64 (48 + (Int.tmod x0_1 10))) % 256)]) (ok := fun _ => True) (okp := fun _ => True) ?hr ?hp (fun _ hk => hk) trivial (Below.refl _ _) (Nat.le_refl _) (by simp) ?_; (case hd => rfl); (case hg => rfl); (case hr => exact hrw); (case hp => exact (Reps.one (show Kd.M (Kd.int .u8) _ _ _ ((wrap64 (48 + (Int.tmod x0_1 10))) % 256) [.int .u8 ((wrap64 (48 + (Int.tmod x0_1 10))) % 256)] from rfl) (Reps.none _ _))); intro v219 w12 ho13 hb hg_ hnew_; clear hg_ hnew_; (first | rw [← Ny218.out] at ho13 | (simp only [Int.reduceToNat] at ho13; rw [← Ny218.out] at ho13)); have n0_ := am (Kd.R_lower ho13 (below_size blw)); have n1_ := am (below_step blw hb); clear HB; revert n0_ n1_; intro HO220 HB; clear hb ho13; have hcv14 := own_string (P := Tryd.prog) Tryd.underlying71 Tryd.underlying5 Tryd.underlying9 (Kd.own_of_R HO220.out)))
    go_roundg k1
    case measure => have := HK1.out; omega
    case rel => exact ⟨(wrap64 (Int.tdiv x0_1 10)), ((strOfNums y218) ++ x4_1), rfs, rfs, H', ⟨by have := HK1.out; omega⟩, ⟨blw⟩⟩
   rw [if_pos c6] at H
   have c6b0 : decide ((Int.tmod x0_1 10) < 0) = true := decide_eq_true c6
   clear c6
   obtain ⟨y215, hy215⟩ : ∃ y_ : List Int, y_ = (([(wrap64 (48 + (wrap64 (-(Int.tmod x0_1 10))))) % 256] : List Int)) := ⟨_, rfl⟩
   replace H : (if (strOfNums y215).size + x4_1.size ≤ 9223372036854775807 then (spec_FormatInt.l0 k1 (wrap64 (Int.tdiv x0_1 10)) (decide (a0 < 0)) ((strOfNums y215) ++ x4_1)) else (none)) = some r := by first | (rw [hy215]; with_reducible exact H) | (have H2_ := (Option.bind_some _ _).symm.trans H; rw [hy215]; with_reducible exact H2_) | (have H2_ := (Option.bind_some _ _).symm.trans H; with_reducible exact H2_) | with_reducible exact H | (rw [hy215]; exact H) | exact H
   have Ny215 := am hy215
   clear hy215
   by_cases c7 : (strOfNums y215).size + x4_1.size ≤ 9223372036854775807
   case neg =>
    rw [if_neg c7] at H
    exact absurd H (by simp)
   rw [if_pos c7] at H
   have c7b0 := eq_true c7
   have c7b1 : decide ((strOfNums y215).size + x4_1.size ≤ 9223372036854775807) = true := decide_eq_true c7
   try have c7b2 : (9223372036854775807 < (strOfNums y215).size + x4_1.size) = False := eq_false (Nat.not_lt.2 c7)
   have H' := am H
   clear H
   go_wp2_with (first | ((with_reducible refine gate_dst (N := 21) rfl ?_); refine Kd.R_lit (Kd.int .u8) _ 5 ?hg (N := 21) ?hd (xs := ([(wrap64 (48 + (wrap64 (-(Int.tmod x0_1 10))))) % 256] : List Int)) (inner := [.int .u8 ((wrap64 (48 + (wrap64 (-(Int.tmod x0_1 10))))) % 256)]) (ok := fun _ => True) (okp := fun _ => True) ?hr ?hp (fun _ hk => hk) trivial (Below.refl _ _) (Nat.le_refl _) (by simp) ?_; (case hd => rfl); (case hg => rfl); (case hr => exact hrw); (case hp => exact (Reps.one (show Kd.M (Kd.int .u8) _ _ _ ((wrap64 (48 + (wrap64 (-(Int.tmod x0_1 10))))) % 256) [.int .u8 ((wrap64 (48 + (wrap64 (-(Int.tmod x0_1 10))))) % 256)] from rfl) (Reps.none _ _))); intro v216 w8 ho9 hb hg_ hnew_; clear hg_ hnew_; (first | rw [← Ny215.out] at ho9 | (simp only [Int.reduceToNat] at ho9; rw [← Ny215.out] at ho9)); have n0_ := am (Kd.R_lower ho9 (below_size blw)); have n1_ := am (below_step blw hb); clear HB; revert n0_ n1_; intro HO217 HB; clear hb ho9; have hcv10 := own_string (P := Tryd.prog) Tryd.underlying71 Tryd.underlying5 Tryd.underlying9 (Kd.own_of_R HO217.out)))
   go_roundg k1
   case measure => have := HK1.out; omega
   case rel => exact ⟨(wrap64 (Int.tdiv x0_1 10)), ((strOfNums y215) ++ x4_1), rfs, rfs, H', ⟨by have := HK1.out; omega⟩, ⟨blw⟩⟩

def spec_FreshVar.l0 : Nat → List ByteArray → Int → Option (ByteArray)
 | 0, _, _ => none
 | k + 1, x0, x3 => (spec_FormatInt.f k x3).bind fun t221 => (if 1 + t221.size ≤ 9223372036854775807 then ((spec_IndexOf.f k x0 ((⟨#[118]⟩ : ByteArray) ++ t221)).bind fun t222 => (if t222 < 0 then (some ((⟨#[118]⟩ : ByteArray) ++ t221)) else (spec_FreshVar.l0 k x0 (wrap64 (x3 + 1))))) else (none))
def spec_FreshVar.f (k : Nat) (l0 : List ByteArray) : Option (ByteArray) := spec_FreshVar.l0 k l0 1
theorem spec_FreshVar.calls (k : Nat) (A0 : Option Addr) (c0 : Nat) (l0 : List ByteArray) (r : ByteArray) (w : World) (hr0 : Kd.C Kd.string w A0 l0.length l0) (hc0 : l0.length ≤ c0) (h : spec_FreshVar.f k l0 = some r) :
  Calls Tryd.prog 18 #[.slice A0 l0.length c0] w fun e w' => e = .returned (.string r) ∧ Below w.heap.size w w' := by
 have HR0 := am hr0
 have HC0 := am hc0
 clear hr0 hc0
 have HB := am (Below.refl w.heap.size w)
 have H : (spec_FreshVar.l0 k l0 1) = some r := h
 clear h
 have H' := am H
 clear H
 go_enter Tryd.func18, Tryd.ntmps18
 go_wp2
 go_loopg [3] k (fun kq v3 w' => ∃ (x3_1 : Int), v3 = .int .i64 x3_1 ∧ Aside0 (spec_FreshVar.l0 kq l0 x3_1 = some r) ∧ Aside0 (kq ≤ k) ∧ Aside0 (Below w.heap.size w w'))
 case atStart => exact ⟨(1), rfs, H', ⟨Nat.le_refl _⟩, ⟨blw⟩⟩
 case round =>
  clear H'
  try clear c1
  obtain ⟨x3_1, rfl, HA, HK1, HB⟩ := hrel
  cases gk with
  | zero => exact absurd HA.out (by simp [spec_FreshVar.l0])
  | succ k1 =>
   have H := HA.out
   clear HA
   simp only [spec_FreshVar.l0] at H
   replace H := Option.bind_eq_some_iff.mp H
   obtain ⟨t221, A20, H⟩ := H
   replace H : (if 1 + t221.size ≤ 9223372036854775807 then ((spec_IndexOf.f k1 l0 ((⟨#[118]⟩ : ByteArray) ++ t221)).bind fun t222 => (if t222 < 0 then (some ((⟨#[118]⟩ : ByteArray) ++ t221)) else (spec_FreshVar.l0 k1 l0 (wrap64 (x3_1 + 1))))) else (none)) = some r := H
   have A2 := am A20
   clear A20
   by_cases c3 : 1 + t221.size ≤ 9223372036854775807
   case neg =>
    rw [if_neg c3] at H
    exact absurd H (by simp)
   rw [if_pos c3] at H
   have c3b0 := eq_true c3
   have c3b1 : decide (1 + t221.size ≤ 9223372036854775807) = true := decide_eq_true c3
   try have c3b2 : (9223372036854775807 < 1 + t221.size) = False := eq_false (Nat.not_lt.2 c3)
   replace H := Option.bind_eq_some_iff.mp H
   obtain ⟨t222, A40, H⟩ := H
   replace H : (if t222 < 0 then (some ((⟨#[118]⟩ : ByteArray) ++ t221)) else (spec_FreshVar.l0 k1 l0 (wrap64 (x3_1 + 1)))) = some r := H
   have A4 := am A40
   clear A40
   have HC5 := am H
   clear H
   go_upto_if 13 with (first | ((with_reducible refine gate_callee (f := 44) rfl ?_); refine goesL_ (some 8) rfl rfl Tryd.func44 kr rfl #[.int .i64 x3_1] rfl mpw ?_; (with_reducible refine (spec_FormatInt.calls k1 x3_1 t221 _ A2.out).mono ?_); rintro e w6 ⟨rfl, hb⟩; refine ⟨_, rfl, ?_⟩; have n0_ := am (below_step blw hb); clear HB; revert n0_; intro HB; (try clear hb); (try clear hb2); (try clear hk); (try clear hi)) | ((with_reducible refine gate_callee (f := 17) rfl ?_); refine goesL_ (some 12) rfl rfl Tryd.func17 kr rfl #[.slice A0 l0.length c0, .string ((⟨#[118]⟩ : ByteArray) ++ t221)] rfl mpw ?_; (with_reducible refine (spec_IndexOf.calls k1 _ _ l0 ((⟨#[118]⟩ : ByteArray) ++ t221) t222 _ ?side1 ?side2 A4.out).mono ?_); (case side1 => have X_ := HR0; exact cbl); (case side2 => exact HC0.out); rintro e w' ⟨rfl, ⟨nd, rfl⟩⟩; refine ⟨_, rfl, ?_⟩))
   have H := HC5.out
   clear HC5
   by_cases c7 : t222 < 0
   ·rw [if_pos c7] at H
    have c7b0 : decide (t222 < 0) = true := decide_eq_true c7
    clear c7
    (first | rw [c7b0] | (simp only [i64_w, i32_w]; rw [c7b0]) | skip)
    obtain rfl := Option.some.inj H
    go_wp2
    go_ret
    exact ⟨rfw, blw⟩
   rw [if_neg c7] at H
   have c7b0 : decide (t222 < 0) = false := decide_eq_false c7
   clear c7
   (first | rw [c7b0] | (simp only [i64_w, i32_w]; rw [c7b0]) | skip)
   have H' := am H
   clear H
   go_wp2
   go_roundg k1
   case measure => have := HK1.out; omega
   case rel => exact ⟨(wrap64 (x3_1 + 1)), rfs, H', ⟨by have := HK1.out; omega⟩, ⟨blw⟩⟩

end Go.Proofs.YtpckkjeapfdilaaDoor.Px
end
section
namespace Go.Proofs.YtpckkjeapfdilaaDoor.Px
open Go.RowKit Go.Proofs.YtpckkjeapfdilaaDoorW.PrintWords Go.Proofs.YtpckkjeapfdilaaDoorW.PrintLast Go.Proofs.YtpckkjeapfdilaaDoor.Pl Go.Proofs.YtpckkjeapfdilaaDoor.Ext
set_option linter.unusedVariables false
set_option linter.unusedSimpArgs false
open Classical in
noncomputable def impl_FreeVars.f (_k : Nat) (a0_0 : Int) (a0_1 : ByteArray) (a0_2 : Int) (a0_3 : Int) (l0_4 : List ByteArray) (l0_5 : List (S32)) (l0_6 : List ByteArray) (l0_7 : List (S35)) : Option (List ByteArray) :=
  if SmTerm ⟨a0_0, a0_1, a0_2, ⟨a0_3, l0_4, l0_5⟩, l0_6, l0_7⟩ ∧ ndTerm ⟨a0_0, a0_1, a0_2, ⟨a0_3, l0_4, l0_5⟩, l0_6, l0_7⟩ ≤ 1048577 then some (freeX ⟨a0_0, a0_1, a0_2, ⟨a0_3, l0_4, l0_5⟩, l0_6, l0_7⟩ (fun _ => 0) []) else none
set_option maxHeartbeats 4000000 in
set_option maxRecDepth 100000 in
theorem impl_FreeVars.calls (k : Nat) (a0_0 : Int) (a0_1 : ByteArray) (a0_2 : Int) (a0_3 : Int) (A0_4 : Option Addr) (c0_4 : Nat) (l0_4 : List ByteArray) (A0_5 : Option Addr) (c0_5 : Nat) (l0_5 : List (S32)) (A0_6 : Option Addr) (c0_6 : Nat) (l0_6 : List ByteArray) (A0_7 : Option Addr) (c0_7 : Nat) (l0_7 : List (S35)) (r : List ByteArray) (w : World) (hr0_4 : Kd.C Kd.string w A0_4 l0_4.length l0_4) (hc0_4 : l0_4.length ≤ c0_4) (hr0_5 : Kd.C k32 w A0_5 l0_5.length l0_5) (hc0_5 : l0_5.length ≤ c0_5) (hr0_6 : Kd.C Kd.string w A0_6 l0_6.length l0_6) (hc0_6 : l0_6.length ≤ c0_6) (hr0_7 : Kd.C k35 w A0_7 l0_7.length l0_7) (hc0_7 : l0_7.length ≤ c0_7) (h : impl_FreeVars.f k a0_0 a0_1 a0_2 a0_3 l0_4 l0_5 l0_6 l0_7 = some r) :
    Calls Tryd.prog 28 #[.agg #[.int .i64 a0_0, .string a0_1, .int .i64 a0_2, .int .i64 a0_3, .slice A0_4 l0_4.length c0_4, .slice A0_5 l0_5.length c0_5, .slice A0_6 l0_6.length c0_6, .slice A0_7 l0_7.length c0_7]] w fun e w' => ∃ v0_ : Value, e = .returned (v0_) ∧ Kd.R Kd.string 9 w' w.heap.size (fun _ => True) v0_ r ∧ Below w.heap.size w w' := by
  unfold impl_FreeVars.f at h
  by_cases hc : SmTerm ⟨a0_0, a0_1, a0_2, ⟨a0_3, l0_4, l0_5⟩, l0_6, l0_7⟩ ∧ ndTerm ⟨a0_0, a0_1, a0_2, ⟨a0_3, l0_4, l0_5⟩, l0_6, l0_7⟩ ≤ 1048577
  · rw [if_pos hc] at h
    obtain rfl := Option.some.inj h
    have HG := Aside0.mk (freeIn_go ⟨a0_0, a0_1, a0_2, ⟨a0_3, l0_4, l0_5⟩, l0_6, l0_7⟩ hc.1)
    have HC := Aside0.mk hc.2
    have R4 := Aside0.mk (And.intro hr0_4 hc0_4); have R5 := Aside0.mk (And.intro hr0_5 hc0_5); have R6 := Aside0.mk (And.intro hr0_6 hc0_6); have R7 := Aside0.mk (And.intro hr0_7 hc0_7)
    obtain ⟨X, hX⟩ : ∃ X : S35, X = ⟨a0_0, a0_1, a0_2, ⟨a0_3, l0_4, l0_5⟩, l0_6, l0_7⟩ := ⟨_, rfl⟩
    rw [← hX] at HC ⊢
    have HX := Aside0.mk hX
    clear h hc hr0_4 hc0_4 hr0_5 hc0_5 hr0_6 hc0_6 hr0_7 hc0_7 hX
    have hu36 := Tryd.underlying35
    go_enter Tryd.func28, Tryd.ntmps28
    go_wp2_with (first
      | ((with_reducible refine gate_dst (N := 1) rfl ?_); refine box_event ?hg (N := 1) ?hd (cs := #[.int .i64 a0_0, .string a0_1, .int .i64 a0_2, .int .i64 a0_3, .slice A0_4 l0_4.length c0_4, .slice A0_5 l0_5.length c0_5, .slice A0_6 l0_6.length c0_6, .slice A0_7 l0_7.length c0_7]) (t := 35) ?hr ?_; (case hd => rfl); (case hg => rfl); (case hr => first | (go_simp; done) | (go_simp; rfl)); intro gb hg w1 hbox hb; have HBX := Aside0.mk hbox; have HB1 := Aside0.mk hb; clear hg hbox hb)
      | ((with_reducible refine gate_makeMap (t := 68) rfl ?_); refine Sm.smake_event rfl rfl eI 9 ?_; intro bm w2 hg him hb; have HM := Aside0.mk him; have HGB := Aside0.mk (show w1.heap.size ≤ bm by rw [hg]; exact Nat.le_refl _); have HB2 := Aside0.mk hb; clear hg him hb)
      | ((with_reducible refine gate_dst (N := 4) rfl ?_); refine Kd.R_lit Kd.string (w0 := w1) w1.heap.size 9 ?hg (N := 4) ?hd (xs := ([] : List ByteArray)) (inner := []) (ok := fun k => k ≠ bm) (okp := fun k => k ≠ bm) ?hr ?hp (fun _ hk => hk) (by have := HM.out.lt; omega) HB2.out (below_size HB2.out) (by simp) ?_; (case hd => rfl); (case hg => rfl); (case hr => first | (go_simp; done) | (go_simp; rfl)); (case hp => exact (Reps.none _ _)); intro v3 w3 ho hb hg_ hnew_; have HO := Aside0.mk ho; have HB3 := Aside0.mk hb; have HM3 := Aside0.mk (HM.out.kept hg_ (by simp)); clear ho hb hg_ hnew_)
      | (go_at_call 46
         refine (HG.out ⟨gb, 0, none⟩ A0_4 c0_4 A0_5 c0_5 A0_6 c0_6 A0_7 c0_7 w1 w3 bm 0 (fun _ => 0) v3 [] (Cells_blk HBX.out) (Kd.C_below R4.out.1 HB1.out) R4.out.2 (Kd.C_below R5.out.1 HB1.out) R5.out.2 (Kd.C_below R6.out.1 HB1.out) R6.out.2 (Kd.C_below R7.out.1 HB1.out) R7.out.2 HGB.out HM3.out ?g1 ?g2 ?g3 HO.out HB3.out).mono ?_
         (case g1 => have := HC.out; rw [HX.out] at this; omega)
         (case g2 => intro s; have := HC.out; rw [HX.out] at this; omega)
         (case g3 => have := HC.out; rw [HX.out] at this; rw [List.length_nil]; omega)
         rintro e w4 ⟨v', rfl, ho, _, hb⟩
         rw [← HX.out] at ho
         have HO4 := Aside0.mk (Kd.R_lower (Kd.R_mono (ok' := fun _ => True) ho (fun _ _ => trivial)) (below_size HB1.out))
         have HB4 := Aside0.mk (below_step HB1.out hb)
         clear ho hb))
    go_ret
    exact ⟨_, rfl, HO4.out, HB4.out⟩
  · rw [if_neg hc] at h
    cases h

end Go.Proofs.YtpckkjeapfdilaaDoor.Px
end
section
namespace Go.Proofs.YtpckkjeapfdilaaDoor.Px
open Go.RowKit Go.Proofs.YtpckkjeapfdilaaDoorW.PrintWords Go.Proofs.YtpckkjeapfdilaaDoorW.PrintLast Go.Proofs.YtpckkjeapfdilaaDoor.Pl Go.Proofs.YtpckkjeapfdilaaDoor.Ext
set_option linter.unusedVariables false
set_option linter.unusedSimpArgs false
theorem uni_step_t {acc : List ByteArray} {s : ByteArray} (r : List ByteArray) (h : hasB acc s = true) : uni acc (s :: r) = uni acc r := by rw [uni, if_pos h]
theorem uni_step_f {acc : List ByteArray} {s : ByteArray} (r : List ByteArray) (h : ¬ hasB acc s = true) : uni acc (s :: r) = uni (acc ++ [s]) r := by rw [uni, if_neg h]
theorem uni_sub : ∀ (l acc : List ByteArray) (s : ByteArray), s ∈ acc → s ∈ uni acc l
 | [], _, _, h => h
 | t :: r, acc, s, h => by
  by_cases c : hasB acc t = true
  ·rw [uni_step_t r c]; exact uni_sub r acc s h
  ·rw [uni_step_f r c]; exact uni_sub r _ s (List.mem_append_left _ h)
theorem uni_uni : ∀ (l acc out : List ByteArray), uni out (uni acc l) = uni (uni out acc) l
 | [], acc, out => rfl
 | s :: r, acc, out => by
  by_cases c : hasB acc s = true
  ·have h2 : hasB (uni out acc) s = true := by
    have h := (hasB_iff acc s).1 c
    rw [hasB_iff]
    obtain ⟨a, b, e⟩ := List.append_of_mem h
    rw [e, uni_append]
    by_cases d : hasB (uni out a) s = true
    ·rw [uni_step_t b d]; exact uni_sub b _ s ((hasB_iff _ _).1 d)
    ·rw [uni_step_f b d]; exact uni_sub b _ s (List.mem_append_right _ (List.mem_singleton.2 rfl))
   rw [uni_step_t r c, uni_step_t r h2]
   exact uni_uni r acc out
  ·have e : uni (uni out acc) (s :: r) = uni (uni out (acc ++ [s])) r := by rw [uni_append acc [s] out, ← uni_append [s] r (uni out acc)]; rfl
   rw [uni_step_f r c, e]
   exact uni_uni r _ out
theorem filter_uni (p : ByteArray → Bool) : ∀ (l acc : List ByteArray), (uni acc l).filter p = uni (acc.filter p) (l.filter p)
 | [], acc => rfl
 | s :: r, acc => by
  have hf : p s = true → (hasB (acc.filter p) s = true ↔ hasB acc s = true) := by
   intro hp
   rw [hasB_iff, hasB_iff, List.mem_filter]
   exact ⟨fun h => h.1, fun h => ⟨h, hp⟩⟩
  by_cases hp : p s = true
  ·rw [List.filter_cons_of_pos hp]
   by_cases c : hasB acc s = true
   ·rw [uni_step_t r c, uni_step_t _ ((hf hp).2 c)]; exact filter_uni p r acc
   ·rw [uni_step_f r c, uni_step_f _ (fun h => c ((hf hp).1 h)), filter_uni p r, List.filter_append, List.filter_cons_of_pos hp, List.filter_nil]
  ·rw [List.filter_cons_of_neg hp]
   by_cases c : hasB acc s = true
   ·rw [uni_step_t r c]; exact filter_uni p r acc
   ·rw [uni_step_f r c, filter_uni p r, List.filter_append, List.filter_cons_of_neg hp, List.filter_nil, List.append_nil]
def without (s : ByteArray) (l : List ByteArray) : List ByteArray := l.filter (fun x => decide (x ≠ s))
mutual
def sfv : S35 → List ByteArray
 | ⟨a, nm, _, _, _, xs⟩ => if a = 1 then [nm] else uni [] (sfvS xs (bindAt a xs.length) nm 0)
def sfvS : List S35 → Int → ByteArray → Int → List ByteArray
 | [], _, _, _ => []
 | x :: r, b, nm, i => (if i = b then without nm (sfv x) else sfv x) ++ sfvS r b nm (i + 1)
end
theorem sfv_eq (x : S35) : sfv x = if x.f0 = 1 then [x.f1] else uni [] (sfvS x.f5 (bindAt x.f0 x.f5.length) x.f1 0) := by
 obtain ⟨a, nm, n, t, ls, xs⟩ := x
 rw [sfv]
theorem filter_put (f : ByteArray → Int) (hf : ∀ s, 0 ≤ f s) (nm : ByteArray) (l : List ByteArray) : l.filter (fun s => decide (Sm.put f nm (f nm + 1) s = 0)) = (without nm l).filter (fun s => decide (f s = 0)) := by
 unfold without
 rw [List.filter_filter]
 refine List.filter_congr fun s _ => ?_
 unfold Sm.put
 by_cases h : s = nm
 ·subst h
  have := hf s
  simp only [if_pos rfl]
  simp
  omega
 ·have h' : ¬ nm = s := fun e => h e.symm
  simp [h, h']
mutual
theorem freeX_sfv : ∀ (x : S35) (f : ByteArray → Int) (acc : List ByteArray), (∀ s, 0 ≤ f s) → freeX x f acc = uni acc ((sfv x).filter (fun s => decide (f s = 0)))
 | ⟨a, nm, n, t, ls, xs⟩, f, acc, hf => by
  rw [freeX, sfv]
  by_cases h1 : a = 1
  ·rw [if_pos h1, if_pos h1]
   by_cases h0 : f nm = 0
   ·rw [List.filter_cons_of_pos (by simpa using h0), List.filter_nil]
    by_cases c : hasB acc nm = true
    ·rw [uni_step_t [] c, if_neg (by rw [c]; intro h; cases h.2)]; rfl
    ·rw [uni_step_f [] c, if_pos ⟨h0, by simpa using c⟩]; rfl
   ·rw [List.filter_cons_of_neg (by simpa using h0), List.filter_nil, if_neg (fun h => h0 h.1)]; rfl
  ·rw [if_neg h1, if_neg h1, freeXS_sfv xs _ nm 0 f acc hf, filter_uni, List.filter_nil, uni_uni]; rfl
theorem freeXS_sfv : ∀ (xs : List S35) (b : Int) (nm : ByteArray) (i : Int) (f : ByteArray → Int) (acc : List ByteArray), (∀ s, 0 ≤ f s) → freeXS xs b nm i f acc = uni acc ((sfvS xs b nm i).filter (fun s => decide (f s = 0)))
 | [], b, nm, i, f, acc, hf => by rw [freeXS, sfvS]; rfl
 | x :: r, b, nm, i, f, acc, hf => by
  rw [freeXS, sfvS, List.filter_append, uni_append, freeXS_sfv r b nm (i + 1) f _ hf]
  by_cases c : i = b
  ·rw [if_pos c, if_pos c, freeX_sfv x _ acc (fun s => by unfold Sm.put; have := hf s; have := hf nm; split <;> omega), filter_put f hf]
  ·rw [if_neg c, if_neg c, freeX_sfv x f acc hf]
end
theorem free_all (l : List ByteArray) : l.filter (fun _ => decide ((0 : Int) = 0)) = l := by rw [List.filter_eq_self]; intro a _; rfl
theorem freeX_top (x : S35) : freeX x (fun _ => 0) [] = sfv x := by
 rw [freeX_sfv x (fun _ => 0) [] (fun _ => Int.le_refl 0), free_all, sfv_eq]
 by_cases h : x.f0 = 1
 ·rw [if_pos h]; rfl
 ·rw [if_neg h, uni_uni]; rfl
mutual
theorem sfv_len : ∀ x : S35, (sfv x).length ≤ ndTerm x
 | ⟨a, nm, n, t, ls, xs⟩ => by
  rw [sfv, ndTerm]
  split
  ·simp
  ·have h1 := uni_len (sfvS xs (bindAt a xs.length) nm 0) []
   have h2 := sfvS_len xs (bindAt a xs.length) nm 0
   rw [List.length_nil] at h1
   omega
theorem sfvS_len : ∀ (xs : List S35) (b : Int) (nm : ByteArray) (i : Int), (sfvS xs b nm i).length ≤ ndTermS xs
 | [], _, _, _ => by rw [sfvS]; exact Nat.zero_le _
 | x :: r, b, nm, i => by
  have h1 := sfv_len x
  have h2 := sfvS_len r b nm (i + 1)
  have h3 : (without nm (sfv x)).length ≤ (sfv x).length := List.length_filter_le _ _
  rw [sfvS, ndTermS, List.length_append]
  split <;> omega
end
theorem uni_nil_append (acc l : List ByteArray) (h : acc.Nodup) : uni [] (acc ++ l) = uni acc l := by
 rw [uni_append]
 congr 1
 suffices g : ∀ (l out : List ByteArray), (out ++ l).Nodup → uni out l = out ++ l by simpa using g acc [] (by simpa using h)
 intro l
 induction l with
 | nil => intro out _; rw [List.append_nil]; rfl
 | cons s r ih =>
  intro out hn
  have hs : ¬ hasB out s = true := by
   rw [hasB_iff]
   intro hm
   exact (List.nodup_append.1 hn).2.2 s hm s (List.mem_cons_self ..) rfl
  rw [uni_step_f r hs, ih (out ++ [s]) (by simpa using hn)]
  simp
theorem bindsS_ev (x : S35) : Ev (fun k => spec_l11Binds.f k x.f0 x.f1 x.f2 x.f3.f0 x.f3.f1 x.f3.f2 x.f4 x.f5) (bindAt x.f0 x.f5.length) := by
 have hj : ∀ b : Bool, (b = true ↔ x.f0 = 13 ∧ x.f5.length = 1) → Ev (fun k => spec_l11Binds.j0 k b x.f0 x.f1 x.f2 x.f3.f0 x.f3.f1 x.f3.f2 x.f4 x.f5) (bindAt x.f0 x.f5.length) := by
  intro b hb
  refine Ev.up ?_
  simp only [spec_l11Binds.j0]
  by_cases h : b = true
  ·have h2 := hb.1 h
   have e : bindAt x.f0 x.f5.length = 0 := by unfold bindAt; rw [if_neg (by omega), if_pos h2]
   rw [e]; exact Ev.pos h (Ev.now _)
  ·have h2 : ¬ (x.f0 = 13 ∧ x.f5.length = 1) := fun q => h (hb.2 q)
   have e : bindAt x.f0 x.f5.length = if x.f0 = 10 ∧ x.f5.length = 2 then 1 else -1 := by unfold bindAt; rw [if_neg h2]
   refine Ev.neg h ?_
   by_cases h10 : x.f0 = 10
   ·refine Ev.pos h10 ?_
    by_cases hl : x.f5.length = 2
    ·have e2 : bindAt x.f0 x.f5.length = 1 := by rw [e, if_pos ⟨h10, hl⟩]
     rw [e2]; exact Ev.pos (by omega) (Ev.now _)
    ·have e2 : bindAt x.f0 x.f5.length = -1 := by rw [e, if_neg (fun q => hl q.2)]
     rw [e2]; exact Ev.neg (by omega) (Ev.now _)
   ·have e2 : bindAt x.f0 x.f5.length = -1 := by rw [e, if_neg (fun q => h10 q.1)]
    rw [e2]; exact Ev.neg h10 (Ev.now _)
 simp only [spec_l11Binds.f]
 by_cases h : x.f0 = 13
 ·exact Ev.pos h (hj _ (by simp only [beq_iff_eq]; omega))
 ·exact Ev.neg h (hj _ (by simp [h]))
theorem without_pos {s t : ByteArray} (r : List ByteArray) (h : t ≠ s) : without s (t :: r) = t :: without s r := by
 unfold without
 exact List.filter_cons_of_pos (by simpa using h)
theorem without_neg {s t : ByteArray} (r : List ByteArray) (h : t = s) : without s (t :: r) = without s r := by
 unfold without
 exact List.filter_cons_of_neg (by simpa using h)
theorem without_ev (l : List ByteArray) (hl : l.length ≤ 1048576) (s : ByteArray) : Ev (fun k => spec_l11Without.f k l s) (without s l) := by
 suffices h : ∀ (m i : Nat) (acc : List ByteArray), i + m = l.length → acc.length ≤ i → Ev (fun k => spec_l11Without.l0 k l s acc (i : Int)) (acc ++ without s (l.drop i)) by
  simp only [spec_l11Without.f]
  simpa using h l.length 0 [] (by omega) (Nat.le_refl _)
 intro m
 induction m with
 | zero =>
  intro i acc hi _
  refine Ev.up ?_
  simp only [spec_l11Without.l0]
  rw [List.drop_of_length_le (by omega)]
  simp only [without, List.filter_nil, List.append_nil]
  exact Ev.neg (by omega) (Ev.now _)
 | succ m ih =>
  intro i acc hi ha
  refine Ev.up ?_
  simp only [spec_l11Without.l0, w1' (show i < l.length by omega) hl]
  refine Ev.pos (by omega) (Ev.pos (by omega) ?_)
  rw [drop_at l i (by omega)]
  by_cases hc : (rdOf ByteArray.empty l (i : Int)).toList = s.toList
  ·have e : l.getD i ByteArray.empty = s := by rw [rdOf_str, tl, tl] at hc; exact Sm.toList_inj hc
   refine Ev.pos hc ?_
   rw [without_neg _ e]
   exact ih (i + 1) acc (by omega) (by omega)
  ·have e : l.getD i ByteArray.empty ≠ s := fun e => hc (by rw [rdOf_str, e])
   refine Ev.neg hc (Ev.pos (by omega) ?_)
   rw [without_pos _ e, rdOf_str]
   have := ih (i + 1) (acc ++ [l.getD i ByteArray.empty]) (by omega) (by simp; omega)
   rw [List.append_assoc] at this
   exact this
theorem spec_FreeVars_ev : ∀ x : S35, SmTerm x → ndTerm x ≤ 1048577 → Ev (fun k => spec_FreeVars.f k x.f0 x.f1 x.f2 x.f3.f0 x.f3.f1 x.f3.f2 x.f4 x.f5) (sfv x) := by
 refine indTermI fun x ih hs hn => ?_
 refine Ev.up ?_
 simp only [spec_FreeVars.f]
 rw [sfv_eq]
 by_cases h1 : x.f0 = 1
 ·rw [if_pos h1]; exact Ev.pos h1 (Ev.now _)
 rw [if_neg h1]
 refine Ev.neg h1 ?_
 have hns : ndTerm x = 1 + ndTermS x.f5 := by rw [ndTerm_eq, ndTermS_sum]
 have hlen := hs.p5.1
 suffices h : ∀ (m i : Nat) (acc : List ByteArray), i + m = x.f5.length → acc.length + ndTermS (x.f5.drop i) ≤ 1048576 → acc.Nodup → Ev (fun k => spec_FreeVars.l0 k acc (i : Int) x.f0 x.f1 x.f2 x.f3.f0 x.f3.f1 x.f3.f2 x.f4 x.f5) (uni acc (sfvS (x.f5.drop i) (bindAt x.f0 x.f5.length) x.f1 (i : Int))) by
  simpa using h x.f5.length 0 [] (by omega) (by rw [List.drop_zero, List.length_nil]; omega) List.nodup_nil
 intro m
 induction m with
 | zero =>
  intro i acc hi _ _
  refine Ev.up ?_
  simp only [spec_FreeVars.l0]
  rw [List.drop_of_length_le (by omega), sfvS]
  exact Ev.neg (by omega) (Ev.now _)
 | succ m ihm =>
  intro i acc hi hl hd
  refine Ev.up ?_
  simp only [spec_FreeVars.l0, w1' (show i < x.f5.length by omega) hlen]
  have hmem : rd_T35 x.f5 (i : Int) ∈ x.f5 := mem_getD x.f5 z35 i (by omega)
  have hdr : x.f5.drop i = rd_T35 x.f5 (i : Int) :: x.f5.drop (i + 1) := dropT x.f5 i (by omega)
  have hsub : ndTerm (rd_T35 x.f5 (i : Int)) ≤ ndTermS x.f5 := by rw [ndTermS_sum]; exact sum_le_of_mem ndTerm hmem
  rw [hdr] at hl ⊢
  rw [ndTermS] at hl
  have hfl := sfv_len (rd_T35 x.f5 (i : Int))
  have hwl : (without x.f1 (sfv (rd_T35 x.f5 (i : Int)))).length ≤ (sfv (rd_T35 x.f5 (i : Int))).length := List.length_filter_le _ _
  refine Ev.pos (by omega) (Ev.pos (by omega) (Ev.bind (ih _ hmem (hs.p5.2 _ hmem) (by omega)) (Ev.bind (bindsS_ev x) ?_)))
  rw [sfvS]
  by_cases hb : (i : Int) = bindAt x.f0 x.f5.length
  ·rw [if_pos hb, uni_append]
   refine Ev.pos hb (Ev.bind (without_ev _ (by omega) _) (Ev.bind (spec_UniteNames_ev acc _ (by omega)) ?_))
   rw [uni_nil_append _ _ hd]
   have hul := uni_len (without x.f1 (sfv (rd_T35 x.f5 (i : Int)))) acc
   exact ihm (i + 1) _ (by omega) (by omega) (uni_nodup _ _ hd)
  ·rw [if_neg hb, uni_append]
   refine Ev.neg hb (Ev.bind (spec_UniteNames_ev acc _ (by omega)) ?_)
   rw [uni_nil_append _ _ hd]
   have hul := uni_len (sfv (rd_T35 x.f5 (i : Int))) acc
   exact ihm (i + 1) _ (by omega) (by omega) (uni_nodup _ _ hd)
theorem FreeVars_same (x : S35) (hs : SmTerm x) (hn : ndTerm x ≤ 1048577) : Ev (fun k => impl_FreeVars.f k x.f0 x.f1 x.f2 x.f3.f0 x.f3.f1 x.f3.f2 x.f4 x.f5) (sfv x) ∧ Ev (fun k => spec_FreeVars.f k x.f0 x.f1 x.f2 x.f3.f0 x.f3.f1 x.f3.f2 x.f4 x.f5) (sfv x) := by
 refine ⟨?_, spec_FreeVars_ev x hs hn⟩
 have : ∀ k, impl_FreeVars.f k x.f0 x.f1 x.f2 x.f3.f0 x.f3.f1 x.f3.f2 x.f4 x.f5 = some (sfv x) := by
  intro k
  unfold impl_FreeVars.f
  rw [etaTerm, if_pos ⟨hs, hn⟩, freeX_top]
 simp only [this]
 exact Ev.now _

end Go.Proofs.YtpckkjeapfdilaaDoor.Px
end
section
namespace Go.Proofs.YtpckkjeapfdilaaDoor.Px
open Go.RowKit Go.Proofs.YtpckkjeapfdilaaDoorW.PrintWords Go.Proofs.YtpckkjeapfdilaaDoorW.PrintLast Go.Proofs.YtpckkjeapfdilaaDoor.Pl Go.Proofs.YtpckkjeapfdilaaDoor.Ext
set_option linter.unusedVariables false
set_option linter.unusedSimpArgs false
theorem tmod10 (u : Nat) : Int.tmod (u : Int) 10 = ((u % 10 : Nat) : Int) := rfl
theorem tdiv10 (u : Nat) : Int.tdiv (u : Int) 10 = ((u / 10 : Nat) : Int) := rfl
theorem tmod10n (u : Nat) : Int.tmod (-(u : Int)) 10 = -((u % 10 : Nat) : Int) := by rw [Int.neg_tmod, tmod10]
theorem tdiv10n (u : Nat) : Int.tdiv (-(u : Int)) 10 = -((u / 10 : Nat) : Int) := by rw [Int.neg_tdiv, tdiv10]
theorem baExt {a b : ByteArray} (h : a.data.toList = b.data.toList) : a = b := by
  cases a with | mk a => cases b with | mk b =>
  congr 1
  exact Array.toList_inj.1 h
theorem baApp (a b : ByteArray) : (a ++ b).data.toList = a.data.toList ++ b.data.toList := by simp
theorem digitB (d : Nat) (h : d < 10) : strOfNums [(wrap64 (48 + (d : Int))) % 256] = ⟨#[UInt8.ofNat (48 + d)]⟩ := by
  rw [w64 (by omega) (by omega)]
  have : ((48 + (d : Int)) % 256).toNat = 48 + d := by omega
  simp [strOfNums, this]
theorem dd10 (u : Nat) (h : u ≠ 0) : (if u / 10 = 0 then [] else Lib.decDigits (u / 10)) ++ [UInt8.ofNat (48 + u % 10)] = Lib.decDigits u := by
  by_cases h10 : u < 10
  · rw [if_pos (by omega), Lib.decDigits, dif_pos h10, Nat.mod_eq_of_lt h10]; rfl
  · rw [if_neg (by omega)]
    conv => rhs; rw [Lib.decDigits, dif_neg h10]
def outI (u : Nat) (neg : Bool) (out : ByteArray) : ByteArray := ⟨((if neg = true then [45] else []) ++ (if u = 0 then [] else Lib.decDigits u) ++ out.data.toList).toArray⟩
theorem outI_step (u : Nat) (neg : Bool) (out : ByteArray) (h : u ≠ 0) : outI (u / 10) neg ((⟨#[UInt8.ofNat (48 + u % 10)]⟩ : ByteArray) ++ out) = outI u neg out := by
  apply baExt
  simp only [outI]
  rw [if_neg h, ← dd10 u h, baApp]
  simp [List.append_assoc]
theorem intLoop_zero (neg : Bool) (out : ByteArray) (h : out.size ≤ 1000) : Ev (fun k => spec_FormatInt.l0 k 0 neg out) (outI 0 neg out) := by
  refine Ev.up ?_
  simp only [spec_FormatInt.l0]
  refine Ev.pos trivial (Ev.cases (fun hn => ?_) (fun hn => ?_))
  · refine Ev.pos (by omega) (Ev.const ?_)
    apply baExt
    rw [baApp]
    simp [outI, hn]
  · refine Ev.const ?_
    apply baExt
    simp [outI, hn]
theorem intLoop_ev : ∀ (n u : Nat) (x : Int) (neg : Bool) (out : ByteArray), (x = (u : Int) ∨ x = -(u : Int)) → u < 10 ^ n → u ≤ 9223372036854775808 → (x = (u : Int) → u ≤ 9223372036854775807) → out.size + n ≤ 1000 → Ev (fun k => spec_FormatInt.l0 k x neg out) (outI u neg out) := by
  intro n
  induction n with
  | zero =>
    intro u x neg out hx hu _ _ ho
    have h0 : u = 0 := by omega
    subst h0
    have : x = 0 := by omega
    subst this
    exact intLoop_zero neg out (by omega)
  | succ n ih =>
    intro u x neg out hx hu hb hb2 ho
    by_cases h0 : u = 0
    · subst h0
      have : x = 0 := by omega
      subst this
      exact intLoop_zero neg out (by omega)
    have h10 : u / 10 < 10 ^ n := by rw [Nat.pow_succ] at hu; omega
    have hs : ((⟨#[UInt8.ofNat (48 + u % 10)]⟩ : ByteArray) ++ out).size = 1 + out.size := by rw [ByteArray.size_append]; rfl
    have hs1 : (⟨#[UInt8.ofNat (48 + u % 10)]⟩ : ByteArray).size = 1 := rfl
    refine Ev.up ?_
    simp only [spec_FormatInt.l0]
    refine Ev.neg (by omega) ?_
    by_cases hx0 : x < 0
    · have ex : x = -(u : Int) := by omega
      subst ex
      have ih' := ih (u / 10) (-((u / 10 : Nat) : Int)) neg ((⟨#[UInt8.ofNat (48 + u % 10)]⟩ : ByteArray) ++ out) (Or.inr rfl) h10 (by omega) (by omega) (by rw [hs]; omega)
      rw [outI_step u neg out h0] at ih'
      rw [tmod10n, tdiv10n, Int.neg_neg]
      have wd : wrap64 (-((u / 10 : Nat) : Int)) = -((u / 10 : Nat) : Int) := w64 (by omega) (by omega)
      have wm : wrap64 ((u % 10 : Nat) : Int) = ((u % 10 : Nat) : Int) := w64 (by omega) (by omega)
      rw [wd, wm]
      refine Ev.cases (fun hc => ?_) (fun hc => ?_)
      · simp only [Option.bind_some]
        rw [digitB _ (Nat.mod_lt _ (by decide))]
        exact Ev.pos (by rw [hs1]; omega) ih'
      · have e0 : u % 10 = 0 := by omega
        have e1 : (-((u % 10 : Nat) : Int)) = ((u % 10 : Nat) : Int) := by omega
        rw [e1]
        simp only [Option.bind_some]
        rw [digitB _ (Nat.mod_lt _ (by decide))]
        exact Ev.pos (by rw [hs1]; omega) ih'
    · have ex : x = (u : Int) := by omega
      subst ex
      have ih' := ih (u / 10) ((u / 10 : Nat) : Int) neg ((⟨#[UInt8.ofNat (48 + u % 10)]⟩ : ByteArray) ++ out) (Or.inl rfl) h10 (by omega) (by omega) (by rw [hs]; omega)
      rw [outI_step u neg out h0] at ih'
      have hb3 := hb2 rfl
      rw [tmod10, tdiv10]
      have wd : wrap64 ((u / 10 : Nat) : Int) = ((u / 10 : Nat) : Int) := w64 (by omega) (by omega)
      rw [wd]
      refine Ev.neg (by omega) ?_
      simp only [Option.bind_some]
      rw [digitB _ (Nat.mod_lt _ (by decide))]
      exact Ev.pos (by rw [hs1]; omega) ih'
def itB (x : Int) : ByteArray := ⟨(Lib.itoa x).toArray⟩
theorem spec_FormatInt_ev (x : Int) (h0 : -9223372036854775808 ≤ x) (h1 : x ≤ 9223372036854775807) : Ev (fun k => spec_FormatInt.f k x) (itB x) := by
  simp only [spec_FormatInt.f]
  refine Ev.cases (fun hx => Ev.const ?_) (fun hx => ?_)
  · subst hx
    simp [itB, Lib.itoa, Lib.decDigits]
  · have h := intLoop_ev 20 x.natAbs x (decide (x < 0)) (⟨#[]⟩ : ByteArray) (by omega) (by omega) (by omega) (by omega) (by decide)
    have e : outI x.natAbs (decide (x < 0)) (⟨#[]⟩ : ByteArray) = itB x := by
      apply baExt
      simp only [outI, itB, Lib.itoa]
      rw [if_neg (show ¬ x.natAbs = 0 by omega)]
      by_cases hn : x < 0
      · simp [hn]
      · have : x.natAbs = x.toNat := by omega
        simp [hn, this]
    rw [e] at h
    exact h
theorem impl_FormatInt_eq (x : Int) (h0 : -9223372036854775808 ≤ x) (h1 : x ≤ 9223372036854775807) : impl_FormatInt.f x = some (itB x) := by
  simp only [impl_FormatInt.f, strconv_Itoa_53.f]
  rw [if_pos ⟨h0, h1⟩]
  rfl
theorem itB_size (x : Int) (h0 : -9223372036854775808 ≤ x) (h1 : x ≤ 9223372036854775807) : (itB x).size ≤ 21 := by
  have := Lib.itoa_length_le x h0 h1
  simpa [itB, ByteArray.size] using this
end Go.Proofs.YtpckkjeapfdilaaDoor.Px
end
section
namespace Go.Proofs.YtpckkjeapfdilaaDoor.Px
open Go.RowKit Go.Proofs.YtpckkjeapfdilaaDoorW.PrintWords Go.Proofs.YtpckkjeapfdilaaDoorW.PrintLast Go.Proofs.YtpckkjeapfdilaaDoor.Pl Go.Proofs.YtpckkjeapfdilaaDoor.Ext
set_option linter.unusedVariables false
set_option linter.unusedSimpArgs false
theorem pigeon {α : Type} [DecidableEq α] : ∀ (l xs : List α), l.Nodup → (∀ y ∈ l, y ∈ xs) → l.length ≤ xs.length
 | [], _, _, _ => Nat.zero_le _
 | y :: l, xs, hn, hs => by
  obtain ⟨h1, h2⟩ := List.nodup_cons.1 hn
  have hm := hs y List.mem_cons_self
  have ih := pigeon l (xs.erase y) h2 (fun z hz => (List.mem_erase_of_ne (by rintro rfl; exact h1 hz)).2 (hs z (List.mem_cons_of_mem _ hz)))
  have := List.length_erase_of_mem hm
  have := List.length_pos_of_mem hm
  simp only [List.length_cons]
  omega
def valD (l : List UInt8) : Nat := l.foldl (fun a b => a * 10 + (b.toNat - 48)) 0
theorem valD_dec : ∀ u : Nat, valD (Lib.decDigits u) = u := by
 intro u
 induction u using Nat.strongRecOn with
 | _ u ih =>
  by_cases h : u < 10
  ·rw [Lib.decDigits, dif_pos h]
   have : (UInt8.ofNat (48 + u)).toNat = 48 + u := by rw [UInt8.toNat_ofNat']; omega
   simp only [valD, List.foldl_cons, List.foldl_nil, this]; omega
  ·rw [Lib.decDigits, dif_neg h]
   have h1 := ih (u / 10) (by omega)
   have : (UInt8.ofNat (48 + u % 10)).toNat = 48 + u % 10 := by rw [UInt8.toNat_ofNat']; omega
   simp only [valD] at h1 ⊢
   rw [List.foldl_append, h1]
   simp only [List.foldl_cons, List.foldl_nil, this]
   omega
def nmV (i : Nat) : ByteArray := (⟨#[118]⟩ : ByteArray) ++ itB (i : Int)
theorem nmV_inj {i j : Nat} (h : nmV i = nmV j) : i = j := by
 have h1 := congrArg (fun b => b.data.toList) h
 simp only [nmV, baApp] at h1
 have h2 := List.append_cancel_left h1
 simp only [itB] at h2
 rw [Lib.itoa_nonneg, Lib.itoa_nonneg] at h2
 have h3 := congrArg valD h2
 rwa [valD_dec, valD_dec] at h3
theorem str_ext {a b : ByteArray} (h : a.toList = b.toList) : a = b := baExt (by simpa [ByteArray.toList_eq] using h)
end Go.Proofs.YtpckkjeapfdilaaDoor.Px
end
section
namespace Go.Proofs.YtpckkjeapfdilaaDoor.Px
open Go.RowKit Go.Proofs.YtpckkjeapfdilaaDoorW.PrintWords Go.Proofs.YtpckkjeapfdilaaDoorW.PrintLast Go.Proofs.YtpckkjeapfdilaaDoor.Pl Go.Proofs.YtpckkjeapfdilaaDoor.Ext
set_option linter.unusedVariables false
set_option linter.unusedSimpArgs false
def FreshIs (l : List ByteArray) (s : ByteArray) : Prop := ∃ i, 1 ≤ i ∧ s = nmV i ∧ s ∉ l ∧ ∀ j, 1 ≤ j → j < i → nmV j ∈ l
theorem FreshIs_one {l : List ByteArray} {s t : ByteArray} (h : FreshIs l s) (h2 : FreshIs l t) : s = t := by
 obtain ⟨i, i1, rfl, i3, i4⟩ := h
 obtain ⟨j, j1, rfl, j3, j4⟩ := h2
 rcases Nat.lt_trichotomy i j with c | c | c
 ·exact absurd (j4 i i1 c) i3
 ·rw [c]
 ·exact absurd (i4 j j1 c) j3
noncomputable def freshN (l : List ByteArray) : ByteArray := Classical.epsilon (FreshIs l)
theorem freshN_of {l : List ByteArray} {s : ByteArray} (h : FreshIs l s) : freshN l = s := FreshIs_one (Classical.epsilon_spec (p := FreshIs l) ⟨s, h⟩) h
theorem freshN_set {l l' : List ByteArray} (h : ∀ s, s ∈ l ↔ s ∈ l') : freshN l = freshN l' := by
 have e : FreshIs l = FreshIs l' := by
  funext s
  simp only [FreshIs, h]
 unfold freshN
 rw [e]
theorem fresh_ev_loop (xs : List ByteArray) (hx : xs.length ≤ 2097150) : ∀ m i : Nat, 1 ≤ i → i + m ≤ xs.length + 2 → (∃ j, i ≤ j ∧ j < i + m ∧ nmV j ∉ xs) → (∀ j, 1 ≤ j → j < i → nmV j ∈ xs) → ∃ r, Ev (fun k => spec_FreshVar.l0 k xs (i : Int)) r ∧ Ev (fun k => impl_FreshVar.l0 k xs (i : Int)) r ∧ FreshIs xs r ∧ r.size ≤ 22 := by
 intro m
 induction m with
 | zero => rintro i _ _ ⟨j, h1, h2, _⟩; omega
 | succ m ih =>
  rintro i h1 hi ⟨j, hj1, hj2, hj⟩ hbe
  have hs := itB_size (i : Int) (by omega) (by omega)
  obtain ⟨t, t1, t2⟩ := idx_ev xs (by omega) (nmV i)
  have c1 := contains_ev xs (by omega) (nmV i)
  by_cases hc : nmV i ∈ xs
  ·have hb := (hasB_iff xs (nmV i)).2 hc
   obtain ⟨r, r1, r2, r3, r4⟩ := ih (i + 1) (by omega) (by omega) ⟨j, by
    by_cases e : j = i
    ·subst e; exact absurd hc hj
    ·omega, by omega, hj⟩ (fun j' a b => by
    by_cases e : j' = i
    ·subst e; exact hc
    ·exact hbe j' a (by omega))
   refine ⟨r, Ev.up ?_, Ev.up ?_, r3, r4⟩
   ·simp only [spec_FreshVar.l0]
    refine Ev.bind (spec_FormatInt_ev (i : Int) (by omega) (by omega)) (Ev.pos (by omega) (Ev.bind t1 (Ev.neg (fun h => by have := t2.1 h; rw [hb] at this; cases this) ?_)))
    rw [w1 (n := i + 1) (by omega) (by unfold maxLen; omega)]
    exact r1
   ·simp only [impl_FreshVar.l0]
    rw [impl_FormatInt_eq (i : Int) (by omega) (by omega)]
    simp only [Option.bind_some]
    refine Ev.pos (by omega) (Ev.bind c1 (Ev.pos hb ?_))
    rw [w1 (n := i + 1) (by omega) (by unfold maxLen; omega)]
    exact r2
  ·have hb : hasB xs (nmV i) = false := by
    cases h : hasB xs (nmV i)
    ·rfl
    ·exact absurd ((hasB_iff _ _).1 h) hc
   refine ⟨nmV i, Ev.up ?_, Ev.up ?_, ⟨i, h1, rfl, hc, hbe⟩, ?_⟩
   ·simp only [spec_FreshVar.l0]
    exact Ev.bind (spec_FormatInt_ev (i : Int) (by omega) (by omega)) (Ev.pos (by omega) (Ev.bind t1 (Ev.pos (t2.2 hb) (Ev.now _))))
   ·simp only [impl_FreshVar.l0]
    rw [impl_FormatInt_eq (i : Int) (by omega) (by omega)]
    simp only [Option.bind_some]
    exact Ev.pos (by omega) (Ev.bind c1 (Ev.neg (fun h => by change hasB xs (nmV i) = true at h; rw [hb] at h; cases h) (Ev.now _)))
   ·have : (nmV i).size = 1 + (itB (i : Int)).size := by unfold nmV; rw [ByteArray.size_append]; rfl
    omega
theorem fresh_ev (xs : List ByteArray) (hx : xs.length ≤ 2097150) : Ev (fun k => spec_FreshVar.f k xs) (freshN xs) ∧ Ev (fun k => impl_FreshVar.f k xs) (freshN xs) ∧ (freshN xs).size ≤ 22 := by
 obtain ⟨r, r1, r2, r3, r4⟩ := fresh_ev_loop xs hx (xs.length + 1) 1 (by omega) (by omega) (by
  apply Classical.byContradiction
  intro hno
  have hp := pigeon ((List.range (xs.length + 1)).map fun i => nmV (i + 1)) xs ?_ ?_
  ·simp only [List.length_map, List.length_range] at hp; omega
  ·rw [List.nodup_iff_pairwise_ne, List.pairwise_map]
   refine List.Pairwise.imp ?_ (List.nodup_iff_pairwise_ne.1 List.nodup_range)
   intro a b hab e
   exact hab (by have := nmV_inj e; omega)
  ·intro y hym
   obtain ⟨i, hi, rfl⟩ := List.mem_map.1 hym
   apply Classical.byContradiction
   intro hn
   exact hno ⟨i + 1, by omega, by have := List.mem_range.1 hi; omega, hn⟩) (fun j a b => by omega)
 rw [freshN_of r3]
 exact ⟨r1, r2, r4⟩

end Go.Proofs.YtpckkjeapfdilaaDoor.Px
end
section
namespace Go.Proofs.YtpckkjeapfdilaaDoor.Px
open Go.RowKit Go.Proofs.YtpckkjeapfdilaaDoorW.PrintWords Go.Proofs.YtpckkjeapfdilaaDoorW.PrintLast Go.Proofs.YtpckkjeapfdilaaDoor.Pl Go.Proofs.YtpckkjeapfdilaaDoor.Ext
set_option linter.unusedVariables false
set_option linter.unusedSimpArgs false
def bdAt (x : S35) : Int := bindAt x.f0 x.f5.length
def renB (x : S35) (nm : ByteArray) (z : S35) : Bool := decide (0 ≤ bdAt x) && (decide (x.f1 ≠ nm) && (hasB (sfv z) x.f1 && hasB (sfv (x.f5.getD (bdAt x).toNat z35)) nm))
def frL (x : S35) (nm : ByteArray) (z : S35) : List ByteArray := sfv z ++ sfv (x.f5.getD (bdAt x).toNat z35) ++ [nm]
noncomputable def newN (x : S35) (nm : ByteArray) (z : S35) : ByteArray := if renB x nm z = true then freshN (frL x nm z) else x.f1
def varT (s : ByteArray) : S35 := ⟨1, s, 0, ⟨0, [], []⟩, [], []⟩
noncomputable def argF (sub : S35 → ByteArray → S35 → S35) (x : S35) (nm : ByteArray) (z : S35) (i : Nat) (y : S35) : S35 :=
 if (i : Int) = bdAt x then (if x.f1 = nm then y else sub (if renB x nm z = true then sub y x.f1 (varT (freshN (frL x nm z))) else y) nm z) else sub y nm z
noncomputable def argsF (sub : S35 → ByteArray → S35 → S35) (x : S35) (nm : ByteArray) (z : S35) : List S35 := (List.range x.f5.length).map (fun i => argF sub x nm z i (x.f5.getD i z35))
noncomputable def subF : Nat → S35 → ByteArray → S35 → S35
 | 0, x, _, _ => x
 | k + 1, x, nm, z => if x.f0 = 1 ∧ x.f1 = nm then z else ⟨x.f0, newN x nm z, x.f2, x.f3, x.f4, argsF (subF k) x nm z⟩
theorem argsF_len (sub : S35 → ByteArray → S35 → S35) (x : S35) (nm : ByteArray) (z : S35) : (argsF sub x nm z).length = x.f5.length := by unfold argsF; simp
theorem argsF_get (sub : S35 → ByteArray → S35 → S35) (x : S35) (nm : ByteArray) (z : S35) (i : Nat) (h : i < x.f5.length) : (argsF sub x nm z).getD i z35 = argF sub x nm z i (x.f5.getD i z35) := by
 unfold argsF
 rw [List.getD_eq_getElem?_getD, List.getElem?_map, List.getElem?_range h]
 rfl
theorem bdAt_lt (x : S35) (h : 0 ≤ bdAt x) : (bdAt x).toNat < x.f5.length := by
 unfold bdAt bindAt at *
 split at h
 ·rename_i c; rw [if_pos c]; omega
 ·rename_i c
  rw [if_neg c]
  split at h
  ·rename_i d; rw [if_pos d]; omega
  ·omega
theorem nd_arg (x : S35) (i : Nat) (h : i < x.f5.length) : ndTerm (x.f5.getD i z35) + 1 ≤ ndTerm x := by
 have := sum_le_of_mem ndTerm (mem_getD x.f5 z35 i h)
 rw [ndTerm_eq x]
 omega
theorem sum_pt {α : Type} (f : α → Nat) (xs : List α) (d : α) (g : Nat → Nat) (c : Nat) (h : ∀ i, i < xs.length → g i ≤ f (xs.getD i d) * c) : ((List.range xs.length).map g).sum ≤ (xs.map f).sum * c := by
 induction xs generalizing g with
 | nil => simp
 | cons x r ih =>
  rw [List.length_cons, List.range_succ_eq_map, List.map_cons, List.sum_cons, List.map_map, List.map_cons, List.sum_cons, Nat.add_mul]
  have h0 := h 0 (by simp)
  have h1 := ih (fun i => g (i + 1)) (fun i hi => by have := h (i + 1) (by simp; omega); simpa using this)
  have e : (List.map (g ∘ Nat.succ) (List.range r.length)) = (List.range r.length).map (fun i => g (i + 1)) := rfl
  rw [e]
  simp only [List.getD_cons_zero] at h0
  omega
theorem nd_varT (s : ByteArray) : ndTerm (varT s) = 1 := by rw [ndTerm_eq]; rfl
theorem nd_subV : ∀ (k : Nat) (x : S35) (nm s : ByteArray), ndTerm (subF k x nm (varT s)) ≤ ndTerm x
 | 0, x, nm, s => Nat.le_refl _
 | k + 1, x, nm, s => by
  rw [subF]
  split
  ·rw [nd_varT]; exact nd_pos x
  ·rw [ndTerm_eq, ndTerm_eq x]
   simp only [argsF, List.map_map]
   have := sum_pt ndTerm x.f5 z35 (fun i => ndTerm (argF (subF k) x nm (varT s) i (x.f5.getD i z35))) 1 (fun i hi => by
    have h0 : ∀ (y : S35) (n t : ByteArray), ndTerm (subF k y n (varT t)) ≤ ndTerm y := fun y n t => nd_subV k y n t
    show ndTerm (argF (subF k) x nm (varT s) i (x.f5.getD i z35)) ≤ _
    unfold argF
    generalize x.f5.getD i z35 = y
    split
    ·split
     ·omega
     ·split
      ·have h1 := h0 (subF k y x.f1 (varT (freshN (frL x nm (varT s))))) nm s
       have h2 := h0 y x.f1 (freshN (frL x nm (varT s)))
       omega
      ·have := h0 y nm s; omega
    ·have := h0 y nm s; omega)
   have e : (List.map (ndTerm ∘ fun i => argF (subF k) x nm (varT s) i (x.f5.getD i z35)) (List.range x.f5.length)) = (List.range x.f5.length).map (fun i => ndTerm (argF (subF k) x nm (varT s) i (x.f5.getD i z35))) := rfl
   rw [e]
   omega
theorem sm_varT (s : ByteArray) (h : s.size ≤ 1048576) : SmTerm (varT s) := by
 refine SmTerm.mk (show (Lit.int .i64 1).wf = true by decide) h (show (Lit.int .i64 0).wf = true by decide) ?_ ⟨by simp [varT], by simp [varT]⟩ (by simp [varT]) (by simp [varT])
 exact SmType.mk (show (Lit.int .i64 0).wf = true by decide) ⟨by simp [varT], by simp [varT]⟩ (by simp [varT]) (by simp [varT])
theorem frL_len (x : S35) (nm : ByteArray) (z : S35) (h : 0 ≤ bdAt x) : (frL x nm z).length ≤ ndTerm x + ndTerm z := by
 unfold frL
 have h1 := sfv_len z
 have h2 := sfv_len (x.f5.getD (bdAt x).toNat z35)
 have h3 := nd_arg x _ (bdAt_lt x h)
 simp only [List.length_append, List.length_cons, List.length_nil]
 omega
theorem renB_bd {x : S35} {nm : ByteArray} {z : S35} (h : renB x nm z = true) : 0 ≤ bdAt x := by
 unfold renB at h
 simp only [Bool.and_eq_true, decide_eq_true_eq] at h
 exact h.1
theorem sm_subF : ∀ (k : Nat) (x : S35) (nm : ByteArray) (z : S35), SmTerm x → SmTerm z → ndTerm x + ndTerm z ≤ 2097150 → SmTerm (subF k x nm z)
 | 0, x, nm, z, hx, _, _ => hx
 | k + 1, x, nm, z, hx, hz, hn => by
  rw [subF]
  split
  ·exact hz
  ·refine SmTerm.mk hx.p0 ?_ hx.p2 hx.p3 hx.p4 ?_ ?_
   ·show (newN x nm z).size ≤ 1048576
    unfold newN
    split
    ·rename_i c
     have := (fresh_ev (frL x nm z) (by have := frL_len x nm z (renB_bd c); omega)).2.2
     omega
    ·exact hx.p1
   ·show (argsF (subF k) x nm z).length ≤ 1048576
    rw [argsF_len]
    exact hx.p5.1
   ·intro y hy
    obtain ⟨i, hi, rfl⟩ := List.mem_map.1 hy
    have hi' := List.mem_range.1 hi
    have hy' := hx.p5.2 _ (mem_getD x.f5 z35 i hi')
    have hd := nd_arg x i hi'
    unfold argF
    generalize x.f5.getD i z35 = y at *
    have hp := nd_pos z
    split
    ·split
     ·exact hy'
     ·refine sm_subF k _ nm z ?_ hz ?_
      ·split
       ·rename_i c
        refine sm_subF k y x.f1 _ hy' (sm_varT _ ?_) (by rw [nd_varT]; omega)
        have := (fresh_ev (frL x nm z) (by have := frL_len x nm z (renB_bd c); omega)).2.2
        omega
       ·exact hy'
      ·split
       ·have := nd_subV k y x.f1 (freshN (frL x nm z)); omega
       ·omega
    ·exact sm_subF k y nm z hy' hz (by omega)
theorem newN_neg (x : S35) (nm : ByteArray) (z : S35) (h : bdAt x < ((0 : Nat) : Int)) : newN x nm z = x.f1 := by
 unfold newN
 rw [if_neg (fun c => by have := renB_bd c; omega)]
theorem gn_start (x : S35) (nm : ByteArray) (z : S35) : x.f1 = if bdAt x < ((0 : Nat) : Int) then newN x nm z else x.f1 := by
 split
 ·rename_i c; exact (newN_neg x nm z c).symm
 ·rfl
theorem gn_step {α : Type} (x : S35) (a b : α) (i : Nat) (h : ¬ (i : Int) = bdAt x) : (if bdAt x < (i : Int) then a else b) = if bdAt x < ((i + 1 : Nat) : Int) then a else b := by
 by_cases c : bdAt x < (i : Int)
 ·rw [if_pos c, if_pos (by omega)]
 ·rw [if_neg c, if_neg (by omega)]
theorem gn_at {α : Type} (x : S35) (a b : α) (i : Nat) (h : (i : Int) = bdAt x) : (if bdAt x < (i : Int) then a else b) = b ∧ (if bdAt x < ((i + 1 : Nat) : Int) then a else b) = a := ⟨if_neg (by omega), if_pos (by omega)⟩
theorem gn_end {α : Type} (x : S35) (a b : α) : (if bdAt x < ((x.f5.length : Nat) : Int) then a else b) = a := by
 by_cases c : 0 ≤ bdAt x
 ·have := bdAt_lt x c
  exact if_pos (by omega)
 ·exact if_pos (by omega)
theorem argF_ne (sub : S35 → ByteArray → S35 → S35) {x : S35} (nm : ByteArray) (z : S35) {i : Nat} (y : S35) (h : ¬ (i : Int) = bdAt x) : argF sub x nm z i y = sub y nm z := by unfold argF; rw [if_neg h]
theorem argF_same (sub : S35 → ByteArray → S35 → S35) {x : S35} {nm : ByteArray} (z : S35) {i : Nat} (y : S35) (h : (i : Int) = bdAt x) (h2 : x.f1 = nm) : argF sub x nm z i y = y := by unfold argF; rw [if_pos h, if_pos h2]
theorem argF_no (sub : S35 → ByteArray → S35 → S35) {x : S35} {nm : ByteArray} {z : S35} {i : Nat} (y : S35) (h : (i : Int) = bdAt x) (h2 : ¬ x.f1 = nm) (h3 : renB x nm z = false) : argF sub x nm z i y = sub y nm z := by unfold argF; rw [if_pos h, if_neg h2, if_neg (by rw [h3]; exact Bool.false_ne_true)]
theorem argF_ren (sub : S35 → ByteArray → S35 → S35) {x : S35} {nm : ByteArray} {z : S35} {i : Nat} (y : S35) (h : (i : Int) = bdAt x) (h2 : ¬ x.f1 = nm) (h3 : renB x nm z = true) : argF sub x nm z i y = sub (sub y x.f1 (varT (freshN (frL x nm z)))) nm z := by unfold argF; rw [if_pos h, if_neg h2, if_pos h3]
theorem renB_at {x : S35} {nm : ByteArray} (z : S35) {i : Nat} (h : (i : Int) = bdAt x) (h2 : ¬ x.f1 = nm) : renB x nm z = (hasB (sfv z) x.f1 && hasB (sfv (x.f5.getD i z35)) nm) := by
 unfold renB
 rw [← h, decide_eq_true (show (0 : Int) ≤ (i : Int) by omega), decide_eq_true h2, Int.toNat_natCast, Bool.true_and, Bool.true_and]
theorem renB_same {x : S35} {nm : ByteArray} (z : S35) (h2 : x.f1 = nm) : renB x nm z = false := by
 unfold renB
 rw [decide_eq_false (show ¬ x.f1 ≠ nm from fun c => c h2), Bool.false_and, Bool.and_false]
theorem newN_no {x : S35} {nm : ByteArray} {z : S35} (h : renB x nm z = false) : newN x nm z = x.f1 := by unfold newN; rw [if_neg (by rw [h]; exact Bool.false_ne_true)]
theorem newN_ren {x : S35} {nm : ByteArray} {z : S35} (h : renB x nm z = true) : newN x nm z = freshN (frL x nm z) := by unfold newN; rw [if_pos h]
theorem frL_at {x : S35} {nm : ByteArray} (z : S35) {i : Nat} (h : (i : Int) = bdAt x) : frL x nm z = sfv z ++ sfv (x.f5.getD i z35) ++ [nm] := by
 unfold frL
 rw [← h, Int.toNat_natCast]

end Go.Proofs.YtpckkjeapfdilaaDoor.Px
end
