/- Printed by a program of this session: what functions of the translation come to, each contract as it stands. No condition. -/
import Derived.Test.YtpckkjeapfdilaaDoorZSubstTermSh
import Derived.Test.YtpckkjeapfdilaaDoorZSubstTermPx0M
import Derived.Test.YtpckkjeapfdilaaDoorZSubstTermWLastM
import Derived.StringKeys
import Derived.Test.YtpckkjeapfdilaaDoorZSubstTermPlM
import Derived.Sort.Walk0
section
namespace Go.Proofs.YtpckkjeapfdilaaDoor.Px
set_option maxHeartbeats 8000000
set_option maxRecDepth 100000
open Go.RowKit Go.Proofs.YtpckkjeapfdilaaDoor.Ext Go.Proofs.YtpckkjeapfdilaaDoorW.PrintWords Go.Proofs.YtpckkjeapfdilaaDoorW.PrintLast Go.Proofs.YtpckkjeapfdilaaDoorW.PrintMore
attribute [local go_sem] max2_int min2_int max_two min_two max_three min_three max_four min_four   -- for this text's walks alone
set_option linter.unusedVariables false
set_option linter.unusedSimpArgs false

def spec_l11Binds.j0 : Nat → Bool → Int → ByteArray → Int → Int → List ByteArray → List (S32) → List ByteArray → List (S35) → Option (Int)
 | 0, _, _, _, _, _, _, _, _, _ => none
 | k + 1, x11, x170000, x170001, x170002, x170003, x170004, x170005, x170006, x170007 => if x11 = true then (some 0) else (if x170000 = 10 then (if (x170007.length : Int) = 2 then (some 1) else (some (-1))) else (some (-1)))
def spec_l11Binds.f (k : Nat) (a0_0 : Int) (a0_1 : ByteArray) (a0_2 : Int) (a0_3 : Int) (l0_4 : List ByteArray) (l0_5 : List (S32)) (l0_6 : List ByteArray) (l0_7 : List (S35)) : Option (Int) := if a0_0 = 13 then (spec_l11Binds.j0 k ((l0_7.length : Int) == 1) a0_0 a0_1 a0_2 a0_3 l0_4 l0_5 l0_6 l0_7) else (spec_l11Binds.j0 k false a0_0 a0_1 a0_2 a0_3 l0_4 l0_5 l0_6 l0_7)
theorem spec_l11Binds.calls (k : Nat) (a0_0 : Int) (a0_1 : ByteArray) (a0_2 : Int) (a0_3 : Int) (A0_4 : Option Addr) (c0_4 : Nat) (l0_4 : List ByteArray) (A0_5 : Option Addr) (c0_5 : Nat) (l0_5 : List (S32)) (A0_6 : Option Addr) (c0_6 : Nat) (l0_6 : List ByteArray) (A0_7 : Option Addr) (c0_7 : Nat) (l0_7 : List (S35)) (r : Int) (w : World) (hr0_4 : Kd.C Kd.string w A0_4 l0_4.length l0_4) (hc0_4 : l0_4.length ≤ c0_4) (hr0_5 : Kd.C k32 w A0_5 l0_5.length l0_5) (hc0_5 : l0_5.length ≤ c0_5) (hr0_6 : Kd.C Kd.string w A0_6 l0_6.length l0_6) (hc0_6 : l0_6.length ≤ c0_6) (hr0_7 : Kd.C k35 w A0_7 l0_7.length l0_7) (hc0_7 : l0_7.length ≤ c0_7) (h : spec_l11Binds.f k a0_0 a0_1 a0_2 a0_3 l0_4 l0_5 l0_6 l0_7 = some r) :
  Calls Tryd.prog 15 #[.agg #[.int .i64 a0_0, .string a0_1, .int .i64 a0_2, .int .i64 a0_3, .slice A0_4 l0_4.length c0_4, .slice A0_5 l0_5.length c0_5, .slice A0_6 l0_6.length c0_6, .slice A0_7 l0_7.length c0_7]] w fun e w' => e = .returned (.int .i64 r) ∧ Below w.heap.size w w' := by
 have hu35 := Tryd.underlying35
 have HR0_4 := am hr0_4
 have HC0_4 := am hc0_4
 clear hr0_4 hc0_4
 have HR0_5 := am hr0_5
 have HC0_5 := am hc0_5
 clear hr0_5 hc0_5
 have HR0_6 := am hr0_6
 have HC0_6 := am hc0_6
 clear hr0_6 hc0_6
 have HR0_7 := am hr0_7
 have HC0_7 := am hc0_7
 clear hr0_7 hc0_7
 have HB := am (Below.refl w.heap.size w)
 have H : (if a0_0 = 13 then (spec_l11Binds.j0 k ((l0_7.length : Int) == 1) a0_0 a0_1 a0_2 a0_3 l0_4 l0_5 l0_6 l0_7) else (spec_l11Binds.j0 k false a0_0 a0_1 a0_2 a0_3 l0_4 l0_5 l0_6 l0_7)) = some r := h
 clear h
 have HC2 := am H
 clear H
 go_enter Tryd.func15, Tryd.ntmps15
 go_upto_region 1 with (first | ((with_reducible refine gate_dst (N := 1) rfl ?_); (try (refine gate_guard (by rfl) ?_; dsimp only)); refine box_event ?hg (N := 1) ?hd (cs := #[.int .i64 a0_0, .string a0_1, .int .i64 a0_2, .int .i64 a0_3, .slice A0_4 l0_4.length c0_4, .slice A0_5 l0_5.length c0_5, .slice A0_6 l0_6.length c0_6, .slice A0_7 l0_7.length c0_7]) (t := 35) ?hr ?_; (case hd => rfl); (case hg => rfl); (case hr => exact hrw); intro gb169 hg w3 hbox hb; have n0_ := am (below_step blw hb); have n1_ := am (hbox); have n2_ := am ((by rw [hg]; exact (below_size blw) : w.heap.size ≤ gb169)); have n3_ := n2_; clear HB; revert n0_ n1_ n2_ n3_; intro HB BK169 GW169 GE169; clear hb hbox hg))
 (try simp only [Act.put, List.setIfInBounds_toArray, List.set_cons_zero, List.set_cons_succ])
 go_cut [11] (fun v11 wc => ∃ (kq : Nat) (x11_1 : Bool), v11 = .bool x11_1 ∧ Aside0 (spec_l11Binds.j0 kq x11_1 a0_0 a0_1 a0_2 a0_3 l0_4 l0_5 l0_6 l0_7 = some r) ∧ Aside0 (kq ≤ k) ∧ Aside0 (wc.heap[gb169]? = some (.cells #[.int .i64 a0_0, .string a0_1, .int .i64 a0_2, .int .i64 a0_3, (.slice A0_4 l0_4.length c0_4), (.slice A0_5 l0_5.length c0_5), (.slice A0_6 l0_6.length c0_6), (.slice A0_7 l0_7.length c0_7)] 35 (0, 0))) ∧ Aside0 (Below w.heap.size w wc))
 case first =>
  have H := HC2.out
  clear HC2
  by_cases c4 : a0_0 = 13
  case neg =>
   rw [if_neg c4] at H
   have c4b0 : (a0_0 == 13) = false := beq_eq_false_iff_ne.mpr c4
   have c4b1 : (a0_0 != 13) = true := bne_iff_ne.mpr c4
   (first | rw [c4b0] | (simp only [i64_w, i32_w]; rw [c4b0]) | (rw [c4b1]; (try simp only [Bool.not_true, Bool.not_false])) | skip)
   have H' := am H
   clear H
   obtain ⟨hcz6_0, hcz6_1, hcz6_2, hcz6_3, hcz6_4, hcz6_5, hcz6_6, hcz6_7⟩ := cls8 BK169.out
   obtain ⟨hfz6_0, hfz6_1, hfz6_2, hfz6_3, hfz6_4, hfz6_5, hfz6_6, hfz6_7⟩ := frz8 BK169.out
   go_wp2
   go_meet
   case rel => exact ⟨_, (false), rfs, H', ⟨by first | omega | exact Nat.le_refl _⟩, ⟨bkw⟩, ⟨blw⟩⟩
  rw [if_pos c4] at H
  have c4b0 : (a0_0 == 13) = true := beq_iff_eq.mpr c4
  have c4b1 : (a0_0 != 13) = false := bne_eq_false_iff_eq.mpr c4
  clear c4
  (first | rw [c4b0] | (simp only [i64_w, i32_w]; rw [c4b0]) | (rw [c4b1]; (try simp only [Bool.not_true, Bool.not_false])) | skip)
  have H' := am H
  clear H
  obtain ⟨hcz5_0, hcz5_1, hcz5_2, hcz5_3, hcz5_4, hcz5_5, hcz5_6, hcz5_7⟩ := cls8 BK169.out
  obtain ⟨hfz5_0, hfz5_1, hfz5_2, hfz5_3, hfz5_4, hfz5_5, hfz5_6, hfz5_7⟩ := frz8 BK169.out
  go_wp2
  go_meet
  case rel => exact ⟨_, (((l0_7.length : Int) == 1)), rfs, H', ⟨by first | omega | exact Nat.le_refl _⟩, ⟨bkw⟩, ⟨blw⟩⟩
 case rest =>
  clear HC2
  (try clear c1); (try clear p2); (try clear c4); (try clear c4b0); (try clear c4b1); (try clear hcz5_0 hcz5_1 hcz5_2 hcz5_3 hcz5_4 hcz5_5 hcz5_6 hcz5_7); (try clear hcz6_0 hcz6_1 hcz6_2 hcz6_3 hcz6_4 hcz6_5 hcz6_6 hcz6_7); (try clear hfz5_0 hfz5_1 hfz5_2 hfz5_3 hfz5_4 hfz5_5 hfz5_6 hfz5_7); (try clear hfz6_0 hfz6_1 hfz6_2 hfz6_3 hfz6_4 hfz6_5 hfz6_6 hfz6_7)
  obtain ⟨kq, x11_1, rfl, HA, HJ1, BK169, HB⟩ := hcut
  cases kq with
  | zero => exact absurd HA.out (by simp [spec_l11Binds.j0])
  | succ kj1 =>
   have H := HA.out
   clear HA
   simp only [spec_l11Binds.j0] at H
   by_cases c7 : x11_1 = true
   ·subst c7
    have H1 : (some 0) = some r := by rw [if_pos rfl] at H; exact H
    clear H
    have H := H1
    clear H1
    obtain rfl := Option.some.inj H
    go_wp2
    go_ret
    exact ⟨rfw, blw⟩
   replace c7 := Bool.eq_false_iff.mpr c7
   subst c7
   have H1 : (if a0_0 = 10 then (if (l0_7.length : Int) = 2 then (some 1) else (some (-1))) else (some (-1))) = some r := by rw [if_neg (show ¬ (false = true) by decide)] at H; exact H
   clear H
   have H := H1
   clear H1
   by_cases c8 : a0_0 = 10
   case neg =>
    rw [if_neg c8] at H
    have c8b0 : (a0_0 == 10) = false := beq_eq_false_iff_ne.mpr c8
    have c8b1 : (a0_0 != 10) = true := bne_iff_ne.mpr c8
    obtain rfl := Option.some.inj H
    obtain ⟨hcz12_0, hcz12_1, hcz12_2, hcz12_3, hcz12_4, hcz12_5, hcz12_6, hcz12_7⟩ := cls8 BK169.out
    obtain ⟨hfz12_0, hfz12_1, hfz12_2, hfz12_3, hfz12_4, hfz12_5, hfz12_6, hfz12_7⟩ := frz8 BK169.out
    go_wp2
    go_ret
    exact ⟨rfw, blw⟩
   rw [if_pos c8] at H
   have c8b0 : (a0_0 == 10) = true := beq_iff_eq.mpr c8
   have c8b1 : (a0_0 != 10) = false := bne_eq_false_iff_eq.mpr c8
   clear c8
   by_cases c9 : (l0_7.length : Int) = 2
   case neg =>
    rw [if_neg c9] at H
    have c9b0 : ((l0_7.length : Int) == 2) = false := beq_eq_false_iff_ne.mpr c9
    have c9b1 : ((l0_7.length : Int) != 2) = true := bne_iff_ne.mpr c9
    obtain rfl := Option.some.inj H
    obtain ⟨hcz11_0, hcz11_1, hcz11_2, hcz11_3, hcz11_4, hcz11_5, hcz11_6, hcz11_7⟩ := cls8 BK169.out
    obtain ⟨hfz11_0, hfz11_1, hfz11_2, hfz11_3, hfz11_4, hfz11_5, hfz11_6, hfz11_7⟩ := frz8 BK169.out
    go_wp2
    go_ret
    exact ⟨rfw, blw⟩
   rw [if_pos c9] at H
   have c9b0 : ((l0_7.length : Int) == 2) = true := beq_iff_eq.mpr c9
   have c9b1 : ((l0_7.length : Int) != 2) = false := bne_eq_false_iff_eq.mpr c9
   clear c9
   obtain rfl := Option.some.inj H
   obtain ⟨hcz10_0, hcz10_1, hcz10_2, hcz10_3, hcz10_4, hcz10_5, hcz10_6, hcz10_7⟩ := cls8 BK169.out
   obtain ⟨hfz10_0, hfz10_1, hfz10_2, hfz10_3, hfz10_4, hfz10_5, hfz10_6, hfz10_7⟩ := frz8 BK169.out
   go_wp2
   go_ret
   exact ⟨rfw, blw⟩

def spec_IndexOf.l0 : Nat → List ByteArray → ByteArray → Int → Option (Int)
 | 0, _, _, _ => none
 | k + 1, x0, x1, x5 => if x5 < (x0.length : Int) then (if 0 ≤ x5 then (if (rdOf ByteArray.empty x0 x5).toList = x1.toList then (some x5) else (spec_IndexOf.l0 k x0 x1 (wrap64 (x5 + 1)))) else (none)) else (some (-1))
def spec_IndexOf.f (k : Nat) (l0 : List ByteArray) (a1 : ByteArray) : Option (Int) := spec_IndexOf.l0 k l0 a1 0
theorem spec_IndexOf.calls (k : Nat) (A0 : Option Addr) (c0 : Nat) (l0 : List ByteArray) (a1 : ByteArray) (r : Int) (w : World) (hr0 : Kd.C Kd.string w A0 l0.length l0) (hc0 : l0.length ≤ c0) (h : spec_IndexOf.f k l0 a1 = some r) :
  Calls Tryd.prog 17 #[.slice A0 l0.length c0, .string a1] w fun e w' => e = .returned (.int .i64 r) ∧ Drawn0 w w' := by
 have HR0 := am hr0
 have HC0 := am hc0
 clear hr0 hc0
 have H : (spec_IndexOf.l0 k l0 a1 0) = some r := h
 clear h
 have H' := am H
 clear H
 go_enter Tryd.func17, Tryd.ntmps17
 go_wp2
 go_loopg [5] k (fun kq v5 w' => ∃ (x5_1 : Int), v5 = .int .i64 x5_1 ∧ Aside0 (spec_IndexOf.l0 kq l0 a1 x5_1 = some r) ∧ Aside0 (kq ≤ k) ∧ Drawn0 w w')
 case atStart => exact ⟨(0), rfs, H', ⟨Nat.le_refl _⟩, by repeat (first | exact Drawn0.refl _ | apply Drawn0.step)⟩
 case round =>
  clear H'
  (try clear c1); (try clear p2)
  obtain ⟨x5_1, rfl, HA, HK1, ⟨m1, rfl⟩⟩ := hrel
  cases gk with
  | zero => exact absurd HA.out (by simp [spec_IndexOf.l0])
  | succ k1 =>
   have H := HA.out
   clear HA
   simp only [spec_IndexOf.l0] at H
   by_cases c3 : x5_1 < (l0.length : Int)
   case neg =>
    rw [if_neg c3] at H
    have c3b0 : decide (x5_1 < (l0.length : Int)) = false := decide_eq_false c3
    clear c3
    obtain rfl := Option.some.inj H
    go_wp2
    go_ret
    exact ⟨rfs, by repeat (first | exact Drawn0.refl _ | apply Drawn0.step)⟩
   rw [if_pos c3] at H
   have c3b0 : decide (x5_1 < (l0.length : Int)) = true := decide_eq_true c3
   clear c3
   by_cases c4 : 0 ≤ x5_1
   case neg =>
    rw [if_neg c4] at H
    exact absurd H (by simp)
   rw [if_pos c4] at H
   have c4b0 : decide (0 ≤ x5_1) = true := decide_eq_true c4
   clear c4
   by_cases c5 : (rdOf ByteArray.empty l0 x5_1).toList = a1.toList
   ·rw [if_pos c5] at H
    have c5b0 : ((rdOf ByteArray.empty l0 x5_1).toList == a1.toList) = true := beq_iff_eq.mpr c5
    have c5b1 : ((rdOf ByteArray.empty l0 x5_1).toList != a1.toList) = false := bne_eq_false_iff_eq.mpr c5
    clear c5
    obtain rfl := Option.some.inj H
    have p170 : 0 ≤ (x5_1 : Int) := of_decide_eq_true asw
    have q170 : x5_1 < (l0.length : Int) := of_decide_eq_true asw
    obtain ⟨ad170, e170, hx170_0⟩ := Kd.at_string HR0.out x5_1 p170 q170
    cases e170
    replace p170 := eq_true p170
    replace q170 := eq_true q170
    go_wp2
    go_ret
    exact ⟨rfs, by repeat (first | exact Drawn0.refl _ | apply Drawn0.step)⟩
   rw [if_neg c5] at H
   have c5b0 : ((rdOf ByteArray.empty l0 x5_1).toList == a1.toList) = false := beq_eq_false_iff_ne.mpr c5
   have c5b1 : ((rdOf ByteArray.empty l0 x5_1).toList != a1.toList) = true := bne_iff_ne.mpr c5
   have H' := am H
   clear H
   have p170 : 0 ≤ (x5_1 : Int) := of_decide_eq_true asw
   have q170 : x5_1 < (l0.length : Int) := of_decide_eq_true asw
   obtain ⟨ad170, e170, hx170_0⟩ := Kd.at_string HR0.out x5_1 p170 q170
   cases e170
   replace p170 := eq_true p170
   replace q170 := eq_true q170
   go_wp2
   go_roundg k1
   case measure => have := HK1.out; omega
   case rel => exact ⟨(wrap64 (x5_1 + 1)), rfs, H', ⟨by have := HK1.out; omega⟩, by repeat (first | exact Drawn0.refl _ | apply Drawn0.step)⟩

mutual
def spec_UniteNames.l0 : Nat → List ByteArray → List ByteArray → List ByteArray → Int → Option (List ByteArray)
 | 0, _, _, _, _ => none
 | k + 1, x0, x1, x5, x6 => if x6 < (x0.length : Int) then (if 0 ≤ x6 then ((spec_IndexOf.f k x5 (rdOf ByteArray.empty x0 x6)).bind fun t175 => (if t175 < 0 then (if x5.length < 8796093022208 then (spec_UniteNames.l0 k x0 x1 (x5 ++ [rdOf ByteArray.empty x0 x6]) (wrap64 (x6 + 1))) else (none)) else (spec_UniteNames.l0 k x0 x1 x5 (wrap64 (x6 + 1))))) else (none)) else (spec_UniteNames.l1 k x1 x5 0)
def spec_UniteNames.l1 : Nat → List ByteArray → List ByteArray → Int → Option (List ByteArray)
 | 0, _, _, _ => none
 | k + 1, x1, x5, x7 => if x7 < (x1.length : Int) then (if 0 ≤ x7 then ((spec_IndexOf.f k x5 (rdOf ByteArray.empty x1 x7)).bind fun t181 => (if t181 < 0 then (if x5.length < 8796093022208 then (spec_UniteNames.l1 k x1 (x5 ++ [rdOf ByteArray.empty x1 x7]) (wrap64 (x7 + 1))) else (none)) else (spec_UniteNames.l1 k x1 x5 (wrap64 (x7 + 1))))) else (none)) else (some x5)
end
def spec_UniteNames.f (k : Nat) (l0 : List ByteArray) (l1 : List ByteArray) : Option (List ByteArray) := spec_UniteNames.l0 k l0 l1 (([] : List ByteArray)) 0
theorem spec_UniteNames.calls (k : Nat) (A0 : Option Addr) (c0 : Nat) (l0 : List ByteArray) (A1 : Option Addr) (c1 : Nat) (l1 : List ByteArray) (r : List ByteArray) (w : World) (hr0 : Kd.C Kd.string w A0 l0.length l0) (hc0 : l0.length ≤ c0) (hr1 : Kd.C Kd.string w A1 l1.length l1) (hc1 : l1.length ≤ c1) (h : spec_UniteNames.f k l0 l1 = some r) :
  Calls Tryd.prog 19 #[.slice A0 l0.length c0, .slice A1 l1.length c1] w fun e w' => ∃ v0_ : Value, e = .returned (v0_) ∧ Kd.R Kd.string 9 w' w.heap.size (fun _ => True) v0_ r ∧ Below w.heap.size w w' := by
 have HR0 := am hr0
 have HC0 := am hc0
 clear hr0 hc0
 have HR1 := am hr1
 have HC1 := am hc1
 clear hr1 hc1
 have HB := am (Below.refl w.heap.size w)
 have H : (spec_UniteNames.l0 k l0 l1 (([] : List ByteArray)) 0) = some r := h
 clear h
 obtain ⟨y171, hy171⟩ : ∃ y_ : List ByteArray, y_ = (([] : List ByteArray)) := ⟨_, rfl⟩
 replace H : (spec_UniteNames.l0 k l0 l1 y171 0) = some r := by first | (rw [hy171]; with_reducible exact H) | (have H2_ := (Option.bind_some _ _).symm.trans H; rw [hy171]; with_reducible exact H2_) | (have H2_ := (Option.bind_some _ _).symm.trans H; with_reducible exact H2_) | with_reducible exact H | (rw [hy171]; exact H) | exact H
 have Ny171 := am hy171
 clear hy171
 have H' := am H
 clear H
 go_enter Tryd.func19, Tryd.ntmps19
 go_wp2_with (first | ((with_reducible refine gate_dst (N := 8) rfl ?_); refine Kd.R_lit Kd.string _ 9 ?hg (N := 8) ?hd (xs := ([] : List ByteArray)) (inner := []) (ok := fun _ => True) (okp := fun _ => True) ?hr ?hp (fun _ hk => hk) trivial (Below.refl _ _) (Nat.le_refl _) (by simp) ?_; (case hd => rfl); (case hg => rfl); (case hr => exact hrw); (case hp => exact (Reps.none _ _)); intro v172 w3 ho4 hb hg_ hnew_; clear hg_ hnew_; (first | rw [← Ny171.out] at ho4 | (simp only [Int.reduceToNat] at ho4; rw [← Ny171.out] at ho4)); have n0_ := am (Kd.R_lower ho4 (below_size blw)); have n1_ := am (below_step blw hb); clear HB; revert n0_ n1_; intro HO173 HB; clear hb ho4))
 go_loopg [5, 6] k (fun kq v5 v6 w' => ∃ (x5_1 : List ByteArray) (x6_1 : Int), v6 = .int .i64 x6_1 ∧ Aside0 (spec_UniteNames.l0 kq l0 l1 x5_1 x6_1 = some r) ∧ Aside0 (kq ≤ k) ∧ Aside0 (Kd.R Kd.string 9 w' w.heap.size (fun _ => True) v5 x5_1) ∧ Aside0 (Below w.heap.size w w'))
 case atStart => exact ⟨(y171), (0), rfs, H', ⟨Nat.le_refl _⟩, ⟨by (with_reducible repeat (first | apply Kd.R_alloc | apply Kd.R_drewN | apply Kd.R_drew)); exact HO173.out⟩, ⟨blw⟩⟩
 case round =>
  clear H'
  (try clear c1); (try clear p2)
  obtain ⟨x5_1, x6_1, rfl, HA, HK1, HO_5, HB⟩ := hrel
  cases gk with
  | zero => exact absurd HA.out (by simp [spec_UniteNames.l0])
  | succ k1 =>
   have H := HA.out
   clear HA
   simp only [spec_UniteNames.l0] at H
   by_cases c5 : x6_1 < (l0.length : Int)
   ·rw [if_pos c5] at H
    have c5b0 : decide (x6_1 < (l0.length : Int)) = true := decide_eq_true c5
    clear c5
    by_cases c6 : 0 ≤ x6_1
    case neg =>
     rw [if_neg c6] at H
     exact absurd H (by simp)
    rw [if_pos c6] at H
    have c6b0 : decide (0 ≤ x6_1) = true := decide_eq_true c6
    clear c6
    replace H := Option.bind_eq_some_iff.mp H
    obtain ⟨t175, A70, H⟩ := H
    replace H : (if t175 < 0 then (if x5_1.length < 8796093022208 then (spec_UniteNames.l0 k1 l0 l1 (x5_1 ++ [rdOf ByteArray.empty l0 x6_1]) (wrap64 (x6_1 + 1))) else (none)) else (spec_UniteNames.l0 k1 l0 l1 x5_1 (wrap64 (x6_1 + 1)))) = some r := H
    have A7 := am A70
    clear A70
    have HC8 := am H
    clear H
    have p174 : 0 ≤ (x6_1 : Int) := of_decide_eq_true asw
    have q174 : x6_1 < (l0.length : Int) := of_decide_eq_true asw
    obtain ⟨ad174, e174, hx174_0⟩ := Kd.at_string HR0.out x6_1 p174 q174
    cases e174
    replace hx174_0 := upw HB.out hx174_0
    replace p174 := eq_true p174
    replace q174 := eq_true q174
    obtain ⟨Ao9, co9, eo9⟩ := Kd.R_slice HO_5.out
    subst eo9
    go_upto_if 21 with (first | ((with_reducible refine gate_callee (f := 17) rfl ?_); refine goesL_ (some 20) rfl rfl Tryd.func17 kr rfl #[.slice Ao9 x5_1.length co9, .string (rdOf ByteArray.empty l0 x6_1)] rfl mpw ?_; (with_reducible refine (spec_IndexOf.calls k1 _ _ x5_1 (rdOf ByteArray.empty l0 x6_1) t175 _ ?side1 ?side2 A7.out).mono ?_); (case side1 => repeat (first | exact (Kd.R_reads' HO_5.out).2.2 | (with_reducible refine Kd.C_alloc ?_ _) | (with_reducible refine Kd.C_drewN ?_ _) | (with_reducible refine Kd.C_drew ?_))); (case side2 => exact (Kd.R_reads' HO_5.out).2.1); rintro e w' ⟨rfl, ⟨nd, rfl⟩⟩; refine ⟨_, rfl, ?_⟩))
    have H := HC8.out
    clear HC8
    by_cases c10 : t175 < 0
    case neg =>
     rw [if_neg c10] at H
     have c10b0 : decide (t175 < 0) = false := decide_eq_false c10
     clear c10
     (first | rw [c10b0] | (simp only [i64_w, i32_w]; rw [c10b0]) | skip)
     have H' := am H
     clear H
     go_wp2
     go_roundg k1
     case measure => have := HK1.out; omega
     case rel => exact ⟨(x5_1), (wrap64 (x6_1 + 1)), rfs, H', ⟨by have := HK1.out; omega⟩, ⟨by (with_reducible repeat (first | apply Kd.R_alloc | apply Kd.R_drewN | apply Kd.R_drew)); exact HO_5.out⟩, ⟨blw⟩⟩
    rw [if_pos c10] at H
    have c10b0 : decide (t175 < 0) = true := decide_eq_true c10
    clear c10
    (first | rw [c10b0] | (simp only [i64_w, i32_w]; rw [c10b0]) | skip)
    by_cases c11 : x5_1.length < 8796093022208
    case neg =>
     rw [if_neg c11] at H
     exact absurd H (by simp)
    rw [if_pos c11] at H
    have LMc11 := am c11
    clear c11
    obtain ⟨y177, hy177⟩ : ∃ y_ : List ByteArray, y_ = (x5_1 ++ [rdOf ByteArray.empty l0 x6_1]) := ⟨_, rfl⟩
    replace H : (spec_UniteNames.l0 k1 l0 l1 y177 (wrap64 (x6_1 + 1))) = some r := by first | (rw [hy177]; with_reducible exact H) | (have H2_ := (Option.bind_some _ _).symm.trans H; rw [hy177]; with_reducible exact H2_) | (have H2_ := (Option.bind_some _ _).symm.trans H; with_reducible exact H2_) | with_reducible exact H | (rw [hy177]; exact H) | exact H
    have Ny177 := am hy177
    clear hy177
    have H' := am H
    clear H
    have p176 : 0 ≤ (x6_1 : Int) := of_decide_eq_true asw
    have q176 : x6_1 < (l0.length : Int) := of_decide_eq_true asw
    obtain ⟨ad176, e176, hx176_0⟩ := Kd.at_string HR0.out x6_1 p176 q176
    obtain rfl : ad174 = ad176 := (by injection e176)
    replace hx176_0 := upw HB.out hx176_0
    replace p176 := eq_true p176
    replace q176 := eq_true q176
    go_wp2_with (first | ((with_reducible refine gate_builtin (b := .append) (xs := #[.tmp 22, .tmp 27]) rfl ?_); at_builtin; refine Kd.R_append Kd.string (w0 := w) w.heap.size rfl (.tmp 22) (.tmp 27) 22 9 (.string ⟨#[]⟩) 16 rfl Tryd.underlying22 info9 rfl (by decide) (by omega) (.slice Ao9 x5_1.length co9) x5_1 (rdOf ByteArray.empty l0 x6_1) [.string (rdOf ByteArray.empty l0 x6_1)] (fun _ => True) (fun _ => False) rfl rfl ?aP (fun _ hk => hk.elim) ?aF ?aO ?aB ?aS ?aL ?_; (case aP => exact rfl); (case aB => exact blw); (case aF => exact (fun _ _ => trivial)); (case aO => exact (by (with_reducible repeat (first | apply Kd.R_alloc | apply Kd.R_drewN | apply Kd.R_drew)); exact HO_5.out)); (case aS => exact (below_size blw)); (case aL => have := LMc11.out; omega); intro v178 w12 ho hb hg hat; rw [← Ny177.out] at ho; have n0_ := am (hb); have n1_ := am (ho); clear HB; clear HO_5; revert n0_ n1_; intro HB HO179; clear ho hb hg hat))
    go_roundg k1
    case measure => have := HK1.out; omega
    case rel => exact ⟨(y177), (wrap64 (x6_1 + 1)), rfs, H', ⟨by have := HK1.out; omega⟩, ⟨by (with_reducible repeat (first | apply Kd.R_alloc | apply Kd.R_drewN | apply Kd.R_drew)); exact HO179.out⟩, ⟨blw⟩⟩
   rw [if_neg c5] at H
   have c5b0 : decide (x6_1 < (l0.length : Int)) = false := decide_eq_false c5
   clear c5
   have H' := am H
   clear H
   go_wp2
   go_loopg [5, 7] k1 (fun kq v5 v7 w' => ∃ (x5_2 : List ByteArray) (x7_2 : Int), v7 = .int .i64 x7_2 ∧ Aside0 (spec_UniteNames.l1 kq l1 x5_2 x7_2 = some r) ∧ Aside0 (kq ≤ k1) ∧ Aside0 (Kd.R Kd.string 9 w' w.heap.size (fun _ => True) v5 x5_2) ∧ Aside0 (Below w.heap.size w w'))
   case atStart => exact ⟨(x5_1), (0), rfs, H', ⟨Nat.le_refl _⟩, ⟨by (with_reducible repeat (first | apply Kd.R_alloc | apply Kd.R_drewN | apply Kd.R_drew)); exact HO_5.out⟩, ⟨blw⟩⟩
   case round =>
    clear H'
    (try clear c1); (try clear p1); (try clear q1); (try clear hx1); (try clear p2 p2); (try clear c5); (try clear c5b0); (try clear c6); (try clear c6b0); (try clear p6); (try clear c10); (try clear c10b0); (try clear c11); (try clear hx174_0); (try clear hx176_0); (try clear p174); (try clear p176); (try clear q174); (try clear q176)
    obtain ⟨x5_2, x7_2, rfl, HA, HK2, HO_5, HB⟩ := hrel
    cases gk with
    | zero => exact absurd HA.out (by simp [spec_UniteNames.l1])
    | succ k2 =>
     have H := HA.out
     clear HA
     simp only [spec_UniteNames.l1] at H
     by_cases c13 : x7_2 < (l1.length : Int)
     case neg =>
      rw [if_neg c13] at H
      have c13b0 : decide (x7_2 < (l1.length : Int)) = false := decide_eq_false c13
      clear c13
      obtain rfl := Option.some.inj H
      go_wp2
      go_ret
      exact ⟨_, rfw, by (with_reducible repeat (first | apply Kd.R_alloc | apply Kd.R_drewN | apply Kd.R_drew)); exact HO_5.out, blw⟩
     rw [if_pos c13] at H
     have c13b0 : decide (x7_2 < (l1.length : Int)) = true := decide_eq_true c13
     clear c13
     by_cases c14 : 0 ≤ x7_2
     case neg =>
      rw [if_neg c14] at H
      exact absurd H (by simp)
     rw [if_pos c14] at H
     have c14b0 : decide (0 ≤ x7_2) = true := decide_eq_true c14
     clear c14
     replace H := Option.bind_eq_some_iff.mp H
     obtain ⟨t181, A150, H⟩ := H
     replace H : (if t181 < 0 then (if x5_2.length < 8796093022208 then (spec_UniteNames.l1 k2 l1 (x5_2 ++ [rdOf ByteArray.empty l1 x7_2]) (wrap64 (x7_2 + 1))) else (none)) else (spec_UniteNames.l1 k2 l1 x5_2 (wrap64 (x7_2 + 1)))) = some r := H
     have A15 := am A150
     clear A150
     have HC16 := am H
     clear H
     have p180 : 0 ≤ (x7_2 : Int) := of_decide_eq_true asw
     have q180 : x7_2 < (l1.length : Int) := of_decide_eq_true asw
     obtain ⟨ad180, e180, hx180_0⟩ := Kd.at_string HR1.out x7_2 p180 q180
     cases e180
     replace hx180_0 := upw HB.out hx180_0
     replace p180 := eq_true p180
     replace q180 := eq_true q180
     obtain ⟨Ao17, co17, eo17⟩ := Kd.R_slice HO_5.out
     subst eo17
     go_upto_if 41 with (first | ((with_reducible refine gate_callee (f := 17) rfl ?_); refine goesL_ (some 40) rfl rfl Tryd.func17 kr rfl #[.slice Ao17 x5_2.length co17, .string (rdOf ByteArray.empty l1 x7_2)] rfl mpw ?_; (with_reducible refine (spec_IndexOf.calls k2 _ _ x5_2 (rdOf ByteArray.empty l1 x7_2) t181 _ ?side1 ?side2 A15.out).mono ?_); (case side1 => repeat (first | exact (Kd.R_reads' HO_5.out).2.2 | (with_reducible refine Kd.C_alloc ?_ _) | (with_reducible refine Kd.C_drewN ?_ _) | (with_reducible refine Kd.C_drew ?_))); (case side2 => exact (Kd.R_reads' HO_5.out).2.1); rintro e w' ⟨rfl, ⟨nd, rfl⟩⟩; refine ⟨_, rfl, ?_⟩))
     have H := HC16.out
     clear HC16
     by_cases c18 : t181 < 0
     case neg =>
      rw [if_neg c18] at H
      have c18b0 : decide (t181 < 0) = false := decide_eq_false c18
      clear c18
      (first | rw [c18b0] | (simp only [i64_w, i32_w]; rw [c18b0]) | skip)
      have H' := am H
      clear H
      go_wp2
      go_roundg k2
      case measure => have := HK1.out; have := HK2.out; omega
      case rel => exact ⟨(x5_2), (wrap64 (x7_2 + 1)), rfs, H', ⟨by have := HK1.out; have := HK2.out; omega⟩, ⟨by (with_reducible repeat (first | apply Kd.R_alloc | apply Kd.R_drewN | apply Kd.R_drew)); exact HO_5.out⟩, ⟨blw⟩⟩
     rw [if_pos c18] at H
     have c18b0 : decide (t181 < 0) = true := decide_eq_true c18
     clear c18
     (first | rw [c18b0] | (simp only [i64_w, i32_w]; rw [c18b0]) | skip)
     by_cases c19 : x5_2.length < 8796093022208
     case neg =>
      rw [if_neg c19] at H
      exact absurd H (by simp)
     rw [if_pos c19] at H
     have LMc19 := am c19
     clear c19
     obtain ⟨y183, hy183⟩ : ∃ y_ : List ByteArray, y_ = (x5_2 ++ [rdOf ByteArray.empty l1 x7_2]) := ⟨_, rfl⟩
     replace H : (spec_UniteNames.l1 k2 l1 y183 (wrap64 (x7_2 + 1))) = some r := by first | (rw [hy183]; with_reducible exact H) | (have H2_ := (Option.bind_some _ _).symm.trans H; rw [hy183]; with_reducible exact H2_) | (have H2_ := (Option.bind_some _ _).symm.trans H; with_reducible exact H2_) | with_reducible exact H | (rw [hy183]; exact H) | exact H
     have Ny183 := am hy183
     clear hy183
     have H' := am H
     clear H
     have p182 : 0 ≤ (x7_2 : Int) := of_decide_eq_true asw
     have q182 : x7_2 < (l1.length : Int) := of_decide_eq_true asw
     obtain ⟨ad182, e182, hx182_0⟩ := Kd.at_string HR1.out x7_2 p182 q182
     obtain rfl : ad180 = ad182 := (by injection e182)
     replace hx182_0 := upw HB.out hx182_0
     replace p182 := eq_true p182
     replace q182 := eq_true q182
     go_wp2_with (first | ((with_reducible refine gate_builtin (b := .append) (xs := #[.tmp 42, .tmp 47]) rfl ?_); at_builtin; refine Kd.R_append Kd.string (w0 := w) w.heap.size rfl (.tmp 42) (.tmp 47) 22 9 (.string ⟨#[]⟩) 16 rfl Tryd.underlying22 info9 rfl (by decide) (by omega) (.slice Ao17 x5_2.length co17) x5_2 (rdOf ByteArray.empty l1 x7_2) [.string (rdOf ByteArray.empty l1 x7_2)] (fun _ => True) (fun _ => False) rfl rfl ?aP (fun _ hk => hk.elim) ?aF ?aO ?aB ?aS ?aL ?_; (case aP => exact rfl); (case aB => exact blw); (case aF => exact (fun _ _ => trivial)); (case aO => exact (by (with_reducible repeat (first | apply Kd.R_alloc | apply Kd.R_drewN | apply Kd.R_drew)); exact HO_5.out)); (case aS => exact (below_size blw)); (case aL => have := LMc19.out; omega); intro v184 w20 ho hb hg hat; rw [← Ny183.out] at ho; have n0_ := am (hb); have n1_ := am (ho); clear HB; clear HO_5; revert n0_ n1_; intro HB HO185; clear ho hb hg hat))
     go_roundg k2
     case measure => have := HK1.out; have := HK2.out; omega
     case rel => exact ⟨(y183), (wrap64 (x7_2 + 1)), rfs, H', ⟨by have := HK1.out; have := HK2.out; omega⟩, ⟨by (with_reducible repeat (first | apply Kd.R_alloc | apply Kd.R_drewN | apply Kd.R_drew)); exact HO185.out⟩, ⟨blw⟩⟩

end Go.Proofs.YtpckkjeapfdilaaDoor.Px
end
section
namespace Go.Proofs.YtpckkjeapfdilaaDoor.Sm
open Go.RowKit Go.Proofs.YtpckkjeapfdilaaDoorW.PrintWords Go.Proofs.YtpckkjeapfdilaaDoor.Ext
set_option linter.unusedVariables false
structure El (P : Program) (e : TypeId) (α : Type) where
  enc : α → Value
  lit : α → Lit
  ok : α → Prop
  zero : α
  into : ∀ x, ok x → plainElem (H := Unit) P e (enc x) = some (.lit (lit x), [])
  inv : ∀ v z, plainElem (H := Unit) P e v = some z → ∃ x, v = enc x ∧ z = (.lit (lit x), []) ∧ ok x
  inj : ∀ x y, lit x = lit y → x = y
  zok : ok zero
  zrun : ∀ w, (zeroValue e).run P w = .ok (enc zero) w
def elInt {P : Program} {e : TypeId} (he : P.underlying e = some (.int .i64)) (hz : ∀ w, (zeroValue e).run P w = .ok (.int .i64 0) w) : El P e Int where
  enc := .int .i64
  lit := .int .i64
  ok := fun x => (Lit.int .i64 x).wf = true
  zero := 0
  into := fun x hx => plainElem_int he hx
  inv := fun v z h => plainElem_int_inv he h
  inj := fun x y h => by injection h
  zok := by decide
  zrun := hz
section
variable {P : Program} {k e : TypeId} {α : Type} {E : El P e α}
def SMap (E : El P e α) (k : TypeId) (W : World) (b n : Nat) (f : ByteArray → α) : Prop :=
  ∃ D : DataW Unit, W.ownsMap P k (plainElem P e) b n D ∧ Maps.IsMap D ∧ ∀ s : ByteArray, D.atKey (.string s.data.toList) (.lit (E.lit E.zero)) = .lit (E.lit (f s))
def put (f : ByteArray → α) (s : ByteArray) (v : α) : ByteArray → α := fun x => if x = s then v else f x
theorem SMap.kept {W W' : World} {b n : Nat} {f : ByteArray → α} (h : SMap E k W b n f) {row : Option Nat} (hg : W.grownBy W' row) (hne : some b ≠ row) : SMap E k W' b n f := by
  obtain ⟨D, h1, h2, h3⟩ := h
  exact ⟨D, h1.kept hg hne, h2, h3⟩
theorem SMap.lt {W : World} {b n : Nat} {f : ByteArray → α} (h : SMap E k W b n f) : b < W.heap.size := by
  obtain ⟨D, h1, _⟩ := h
  exact h1.lt
theorem SMap.at {W W' : World} {b n : Nat} {f : ByteArray → α} (h : SMap E k W b n f) (hb : W'.heap[b]? = W.heap[b]?) : SMap E k W' b n f := by
  obtain ⟨D, ⟨es, c, h1, h5⟩, h2, h3⟩ := h
  exact ⟨D, ⟨es, c, hb.trans h1, h5⟩, h2, h3⟩
theorem SMap.below {W W' : World} {b n : Nat} {f : ByteArray → α} (h : SMap E k W b n f) (hb : Below W.heap.size W W') : SMap E k W' b n f := h.at (hb.block _ h.lt)
theorem SMap.mono {W : World} {b n m : Nat} {f : ByteArray → α} (h : SMap E k W b n f) (hn : n ≤ m) : SMap E k W b m f := by
  obtain ⟨D, h1, h2, h3⟩ := h
  exact ⟨D, h1.mono hn, h2, h3⟩
theorem SMap.congr {W : World} {b n : Nat} {f g : ByteArray → α} (h : SMap E k W b n f) (hfg : ∀ s, f s = g s) : SMap E k W b n g := (funext hfg : f = g) ▸ h
theorem toList_inj {a b : ByteArray} (h : a.data.toList = b.data.toList) : a = b := by
  cases a; cases b
  simp only [ByteArray.mk.injEq]
  exact Array.toList_inj.1 h
theorem SMap.put_ {W : World} {b n : Nat} {f : ByteArray → α} {t : TypeId} (h : SMap E k W b n f) (ht : P.underlying t = some (.map k e)) (hk : P.underlying k = some .string) (hn : n < maxLen) (s : ByteArray) (hs : s.size ≤ maxLen) (v : α) (hv : E.ok v) :
    ∃ w', (Instr.mapUpdate t (.map (some b)) (.string s) (E.enc v)).run P W = .ok () w' ∧ SMap E k w' b (n + 1) (put f s v) ∧ W.grownBy w' (some b) := by
  obtain ⟨D, h1, h2, h3⟩ := h
  obtain ⟨w', hrun, r1, r2⟩ := h1.update (Maps.string_keyed hk) ht hn (WideMaps.keyOf_string_mk hk hs) (E.into v hv)
  refine ⟨w', hrun, ⟨_, r1, h2.put _ _, fun x => ?_⟩, r2⟩
  unfold put
  by_cases hx : x = s
  · subst hx
    rw [if_pos rfl]
    exact Maps.atKey_put_same h2 (by simp [WideAt.IsKeyLit]) _ _
  · rw [if_neg hx, Maps.atKey_put_other (fun hl => hx (toList_inj (by injection hl)))]
    exact h3 x
theorem SMap.get_ {W : World} {b n : Nat} {f : ByteArray → α} {t : TypeId} (h : SMap E k W b n f) (ht : P.underlying t = some (.map k e)) (hk : P.underlying k = some .string) (s : ByteArray) (hs : s.size ≤ maxLen) :
    (Instr.lookup t (.map (some b)) (.string s) false).run P W = .ok (E.enc (f s)) W ∧ E.ok (f s) := by
  obtain ⟨D, h1, h2, h3⟩ := h
  obtain ⟨v, ps, hrun, hR⟩ := h1.lookup (Maps.string_keyed hk) ht (E.zrun W) (E.into E.zero E.zok) (WideMaps.keyOf_string_mk hk hs)
  rw [h3 s] at hR
  obtain ⟨x, rfl, hz, hx⟩ := E.inv _ _ hR
  simp only [Prod.mk.injEq] at hz
  have : E.lit (f s) = E.lit x := by have := hz.1; injection this
  obtain rfl := E.inj _ _ this
  exact ⟨hrun, hx⟩
end
section
variable {P : Program} {k e : TypeId} {α : Type} {E : El P e α} {ops : Array Oper} {Q : Exit → Act → World → Prop}
theorem smake_event {rest : List Oper} {o : Oper} {a : Act} {W : World} (hg : o.guard = none) {t : TypeId} (hop : o.op = .makeMap t none) (E : El P e α) (k : TypeId)
    (h : ∀ gm w2, gm = W.heap.size → SMap E k w2 gm 0 (fun _ => E.zero) → Below W.heap.size W w2 → wpList P ops Q rest (a.put o.dst (.map (some gm))) w2) : wpList P ops Q (o :: rest) a W := by
  refine wpList_plain hg fun K hK => ?_
  unfold Oper.wp
  simp only [execOp, hop]
  simp [run_makeMap, Result.andThen]
  exact hK _ _ (h _ _ rfl ⟨.map [], World.ownsMap_made W P k _, Maps.isMap_empty, fun c => rfl⟩ (below_alloc (Below.refl _ _) _))
theorem sput_event {rest : List Oper} {o : Oper} {a : Act} {W : World} (hg : o.guard = none) {t : TypeId} {m x v : Operand} (hop : o.op = .mapUpdate t m x v) (ht : P.underlying t = some (.map k e)) (hk : P.underlying k = some .string)
    {b n : Nat} {f : ByteArray → α} (hm : a.eval m = .map (some b)) (hown : SMap E k W b n f) (hn : n < maxLen) (key : ByteArray) (val : α) (hx : a.eval x = .string key) (hv : a.eval v = E.enc val) (hkey : key.size ≤ maxLen) (hval : E.ok val)
    (h : ∀ w2, SMap E k w2 b (n + 1) (put f key val) → W.grownBy w2 (some b) → wpList P ops Q rest (a.put o.dst undef) w2) : wpList P ops Q (o :: rest) a W := by
  refine wpList_plain hg fun K' hK' => ?_
  obtain ⟨w', hrun, r1, r2⟩ := hown.put_ ht hk hn key hkey val hval
  unfold Oper.wp
  simp [execOp, hop, hm, hx, hv, hrun, Result.andThen]
  exact hK' _ _ (h w' r1 r2)
theorem sget_event {rest : List Oper} {o : Oper} {a : Act} {W : World} (hg : o.guard = none) {t : TypeId} {m x : Operand} (hop : o.op = .lookup t m x false) (ht : P.underlying t = some (.map k e)) (hk : P.underlying k = some .string)
    {b n : Nat} {f : ByteArray → α} (hm : a.eval m = .map (some b)) (hown : SMap E k W b n f) (key : ByteArray) (hx : a.eval x = .string key) (hkey : key.size ≤ maxLen)
    (h : wpList P ops Q rest (a.put o.dst (E.enc (f key))) W) : wpList P ops Q (o :: rest) a W := by
  refine wpList_plain hg fun K' hK' => ?_
  obtain ⟨hrun, _⟩ := hown.get_ ht hk key hkey
  unfold Oper.wp
  simp [execOp, hop, hm, hx, hrun, Result.andThen]
  exact hK' _ _ h
end
end Go.Proofs.YtpckkjeapfdilaaDoor.Sm
end
section
namespace Go.Proofs.YtpckkjeapfdilaaDoor.Px
open Go.RowKit Go.Proofs.YtpckkjeapfdilaaDoorW.PrintWords Go.Proofs.YtpckkjeapfdilaaDoorW.PrintLast Go.Proofs.YtpckkjeapfdilaaDoor.Pl Go.Proofs.YtpckkjeapfdilaaDoor.Ext
set_option linter.unusedVariables false
set_option linter.unusedSimpArgs false
def hasB (l : List ByteArray) (s : ByteArray) : Bool := l.any (fun x => decide (x = s))
def uni (out : List ByteArray) : List ByteArray → List ByteArray
 | [] => out
 | s :: r => if hasB out s = true then uni out r else uni (out ++ [s]) r
theorem tl (s : ByteArray) : s.toList = s.data.toList := Lib.toList_data s
theorem drop_at (out : List ByteArray) (j : Nat) (h : j < out.length) : out.drop j = out.getD j ByteArray.empty :: out.drop (j + 1) := by
 rw [List.drop_eq_getElem_cons h, List.getD_eq_getElem?_getD, List.getElem?_eq_getElem h]
 rfl
theorem hasB_iff (l : List ByteArray) (s : ByteArray) : hasB l s = true ↔ s ∈ l := by
 unfold hasB
 rw [List.any_eq_true]
 constructor
 ·rintro ⟨x, hx, h⟩
  rw [decide_eq_true_eq] at h
  exact h ▸ hx
 ·intro h
  exact ⟨s, h, decide_eq_true rfl⟩
theorem idx_ev (xs : List ByteArray) (hx : xs.length ≤ 2097152) (s : ByteArray) : ∃ t : Int, Ev (fun k => spec_IndexOf.f k xs s) t ∧ (t < 0 ↔ hasB xs s = false) := by
 suffices h : ∀ (m i : Nat), i + m = xs.length → ∃ t : Int, Ev (fun k => spec_IndexOf.l0 k xs s (i : Int)) t ∧ (t < 0 ↔ hasB (xs.drop i) s = false) by
  obtain ⟨t, h1, h2⟩ := h xs.length 0 (by omega)
  exact ⟨t, h1, by simpa using h2⟩
 intro m
 induction m with
 | zero =>
  intro i hi
  refine ⟨-1, Ev.up ?_, ?_⟩
  ·simp only [spec_IndexOf.l0]; exact Ev.neg (by omega) (Ev.now _)
  ·rw [List.drop_of_length_le (by omega)]; simp [hasB]
 | succ m ih =>
  intro i hi
  obtain ⟨t, h1, h2⟩ := ih (i + 1) (by omega)
  rw [drop_at xs i (by omega)]
  by_cases hc : (rdOf ByteArray.empty xs (i : Int)).toList = s.toList
  ·refine ⟨(i : Int), Ev.up ?_, ?_⟩
   ·simp only [spec_IndexOf.l0]; exact Ev.pos (by omega) (Ev.pos (by omega) (Ev.pos hc (Ev.now _)))
   ·rw [rdOf_str, tl, tl] at hc
    have := Sm.toList_inj hc
    constructor
    ·intro h; omega
    ·intro h
     have h' : hasB (xs.getD i ByteArray.empty :: xs.drop (i + 1)) s = true := (hasB_iff _ _).2 (by rw [this]; exact List.mem_cons_self ..)
     rw [h'] at h
     cases h
  ·refine ⟨t, Ev.up ?_, ?_⟩
   ·simp only [spec_IndexOf.l0]
    refine Ev.pos (by omega) (Ev.pos (by omega) (Ev.neg hc ?_))
    rw [w1 (n := xs.length) (by omega) (by unfold maxLen; omega)]; exact h1
   ·rw [h2]
    have hne : ¬ xs.getD i ByteArray.empty = s := fun h => hc (by rw [rdOf_str, h])
    have e : hasB (xs.getD i ByteArray.empty :: xs.drop (i + 1)) s = hasB (xs.drop (i + 1)) s := by unfold hasB; rw [List.any_cons, decide_eq_false hne, Bool.false_or]
    rw [e]
theorem uni_len : ∀ (l acc : List ByteArray), (uni acc l).length ≤ acc.length + l.length
 | [], acc => by simp [uni]
 | s :: r, acc => by
  unfold uni
  split
  ·have := uni_len r acc; simp; omega
  ·have := uni_len r (acc ++ [s]); simp at this ⊢; omega
theorem uni_append : ∀ (a b acc : List ByteArray), uni acc (a ++ b) = uni (uni acc a) b
 | [], b, acc => rfl
 | s :: r, b, acc => by
  by_cases h : hasB acc s = true
  ·have e1 : uni acc (s :: (r ++ b)) = uni acc (r ++ b) := by rw [uni, if_pos h]
   have e2 : uni acc (s :: r) = uni acc r := by rw [uni, if_pos h]
   rw [List.cons_append, e1, e2]
   exact uni_append r b acc
  ·have e1 : uni acc (s :: (r ++ b)) = uni (acc ++ [s]) (r ++ b) := by rw [uni, if_neg h]
   have e2 : uni acc (s :: r) = uni (acc ++ [s]) r := by rw [uni, if_neg h]
   rw [List.cons_append, e1, e2]
   exact uni_append r b (acc ++ [s])
theorem uni_nodup : ∀ (l acc : List ByteArray), acc.Nodup → (uni acc l).Nodup
 | [], acc, h => h
 | s :: r, acc, h => by
  unfold uni
  split
  ·exact uni_nodup r acc h
  ·rename_i hs
   refine uni_nodup r _ (List.nodup_append.2 ⟨h, List.pairwise_singleton _ _, ?_⟩)
   intro a ha b hb
   rw [List.mem_singleton.1 hb]
   intro e
   exact hs ((hasB_iff acc s).2 (e ▸ ha))
theorem unite_l1 (b : List ByteArray) (hb : b.length ≤ 2097152) : ∀ (m i : Nat) (acc : List ByteArray), i + m = b.length → acc.length + m ≤ 2097152 → acc.length + m ≤ 2097152 → Ev (fun k => spec_UniteNames.l1 k b acc (i : Int)) (uni acc (b.drop i)) := by
 intro m
 induction m with
 | zero =>
  intro i acc hi _ _
  refine Ev.up ?_
  simp only [spec_UniteNames.l1]
  rw [List.drop_of_length_le (by omega)]
  exact Ev.neg (by omega) (Ev.now _)
 | succ m ih =>
  intro i acc hi hl hl2
  refine Ev.up ?_
  simp only [spec_UniteNames.l1, w1 (show i < b.length by omega) (by unfold maxLen; omega), rdOf_str]
  obtain ⟨t, h1, h2⟩ := idx_ev acc (by omega) (b.getD i ByteArray.empty)
  refine Ev.pos (by omega) (Ev.pos (by omega) (Ev.bind h1 ?_))
  rw [drop_at b i (by omega)]
  unfold uni
  by_cases hc : hasB acc (b.getD i ByteArray.empty) = true
  ·rw [if_pos hc]
   refine Ev.neg (fun h => by rw [h2.1 h] at hc; cases hc) (ih (i + 1) acc (by omega) (by omega) (by omega))
  ·rw [if_neg hc]
   refine Ev.pos (h2.2 (by simpa using hc)) (Ev.pos (by omega) (ih (i + 1) _ (by omega) (by simp; omega) (by simp; omega)))
theorem spec_UniteNames_ev (a b : List ByteArray) (hl : a.length + b.length ≤ 2097152) : Ev (fun k => spec_UniteNames.f k a b) (uni [] (a ++ b)) := by
 suffices h : ∀ (m i : Nat) (acc : List ByteArray), i + m = a.length → acc.length ≤ i → Ev (fun k => spec_UniteNames.l0 k a b acc (i : Int)) (uni acc (a.drop i ++ b)) by
  simp only [spec_UniteNames.f]
  simpa using h a.length 0 [] (by omega) (Nat.le_refl _)
 intro m
 induction m with
 | zero =>
  intro i acc hi ha
  refine Ev.up ?_
  simp only [spec_UniteNames.l0]
  rw [List.drop_of_length_le (by omega), List.nil_append]
  refine Ev.neg (by omega) ?_
  have := unite_l1 b (by omega) b.length 0 acc (by omega) (by omega) (by omega)
  simpa using this
 | succ m ih =>
  intro i acc hi ha
  refine Ev.up ?_
  simp only [spec_UniteNames.l0, w1 (show i < a.length by omega) (by unfold maxLen; omega), rdOf_str]
  obtain ⟨t, h1, h2⟩ := idx_ev acc (by omega) (a.getD i ByteArray.empty)
  refine Ev.pos (by omega) (Ev.pos (by omega) (Ev.bind h1 ?_))
  rw [drop_at a i (by omega), List.cons_append]
  unfold uni
  by_cases hc : hasB acc (a.getD i ByteArray.empty) = true
  ·rw [if_pos hc]
   refine Ev.neg (fun h => by rw [h2.1 h] at hc; cases hc) (ih (i + 1) acc (by omega) (by omega))
  ·rw [if_neg hc]
   refine Ev.pos (h2.2 (by simpa using hc)) (Ev.pos (by omega) (ih (i + 1) _ (by omega) (by simp; omega)))

end Go.Proofs.YtpckkjeapfdilaaDoor.Px
end
section
namespace Go.Proofs.YtpckkjeapfdilaaDoor.Px
open Go.RowKit Go.Proofs.YtpckkjeapfdilaaDoorW.PrintWords Go.Proofs.YtpckkjeapfdilaaDoorW.PrintLast Go.Proofs.YtpckkjeapfdilaaDoor.Pl Go.Proofs.YtpckkjeapfdilaaDoor.Ext
set_option linter.unusedVariables false
set_option linter.unusedSimpArgs false
theorem zeroI (w : World) : (zeroValue 3).run Tryd.prog w = .ok (.int .i64 0) w := by kernel_rfl
noncomputable def eI : Sm.El Tryd.prog 3 Int := Sm.elInt Tryd.underlying3 zeroI
def bindAt (a : Int) (n : Nat) : Int := if a = 10 ∧ n = 2 then 1 else if a = 13 ∧ n = 1 then 0 else -1
mutual
def freeX : S35 → (ByteArray → Int) → List ByteArray → List ByteArray
  | ⟨a, nm, _, _, _, xs⟩, f, acc => if a = 1 then (if f nm = 0 ∧ hasB acc nm = false then acc ++ [nm] else acc) else freeXS xs (bindAt a xs.length) nm 0 f acc
def freeXS : List S35 → Int → ByteArray → Int → (ByteArray → Int) → List ByteArray → List ByteArray
  | [], _, _, _, _, acc => acc
  | x :: r, b, nm, i, f, acc => freeXS r b nm (i + 1) f (freeX x (if i = b then Sm.put f nm (f nm + 1) else f) acc)
end
theorem freeX_eq (x : S35) (f : ByteArray → Int) (acc : List ByteArray) : freeX x f acc = if x.f0 = 1 then (if f x.f1 = 0 ∧ hasB acc x.f1 = false then acc ++ [x.f1] else acc) else freeXS x.f5 (bindAt x.f0 x.f5.length) x.f1 0 f acc := by
  obtain ⟨a, nm, n, t, ls, xs⟩ := x
  rw [freeX]
theorem binds_ev (x : S35) : Ev (fun k => impl_binds.f k x.f0 x.f1 x.f2 x.f3.f0 x.f3.f1 x.f3.f2 x.f4 x.f5) (bindAt x.f0 x.f5.length) := by
  have hj : ∀ b : Bool, (b = true ↔ x.f0 = 10 ∧ x.f5.length = 2) → Ev (fun k => impl_binds.j0 k b x.f0 x.f5) (bindAt x.f0 x.f5.length) := by
    intro b hb
    refine Ev.up ?_
    simp only [impl_binds.j0]
    unfold bindAt
    by_cases h : b = true
    · rw [show (if x.f0 = 10 ∧ x.f5.length = 2 then (1 : Int) else if x.f0 = 13 ∧ x.f5.length = 1 then 0 else -1) = 1 from if_pos (hb.1 h)]; exact Ev.pos h (Ev.now _)
    · rw [show (if x.f0 = 10 ∧ x.f5.length = 2 then (1 : Int) else if x.f0 = 13 ∧ x.f5.length = 1 then 0 else -1) = (if x.f0 = 13 ∧ x.f5.length = 1 then 0 else -1) from if_neg (fun h2 => h (hb.2 h2))]
      refine Ev.neg h ?_
      by_cases h13 : x.f0 = 13
      · refine Ev.pos h13 ?_
        by_cases h1 : x.f5.length = 1
        · rw [show (if x.f0 = 13 ∧ x.f5.length = 1 then (0 : Int) else -1) = 0 from if_pos ⟨h13, h1⟩]; exact Ev.pos (by omega) (Ev.now _)
        · rw [show (if x.f0 = 13 ∧ x.f5.length = 1 then (0 : Int) else -1) = -1 from if_neg (fun h => h1 h.2)]; exact Ev.neg (by omega) (Ev.now _)
      · rw [show (if x.f0 = 13 ∧ x.f5.length = 1 then (0 : Int) else -1) = -1 from if_neg (fun h => h13 h.1)]; exact Ev.neg h13 (Ev.now _)
  simp only [impl_binds.f]
  by_cases h : x.f0 = 10
  · exact Ev.pos h (hj _ (by simp only [beq_iff_eq]; omega))
  · exact Ev.neg h (hj _ (by simp [h]))
theorem contains_ev (xs : List ByteArray) (hx : xs.length ≤ 4194304) (s : ByteArray) : Ev (fun k => slices_Contains_string_string.f k xs s) (hasB xs s) := by
  suffices h : ∀ (m i : Nat), i + m = xs.length → ∃ t : Int, Ev (fun k => slices_Index_string_string.l0 k xs s (xs.length : Int) (i : Int)) t ∧ decide (t ≥ 0) = hasB (xs.drop i) s by
    obtain ⟨t, h1, h2⟩ := h xs.length 0 (by omega)
    simp only [slices_Contains_string_string.f]
    refine Ev.bind (a := t) h1 (Ev.const ?_)
    simpa using h2
  intro m
  induction m with
  | zero =>
    intro i hi
    refine ⟨-1, Ev.up ?_, ?_⟩
    · simp only [slices_Index_string_string.l0]; exact Ev.neg (by omega) (Ev.now _)
    · rw [List.drop_of_length_le (by omega)]; rfl
  | succ m ih =>
    intro i hi
    obtain ⟨t, h1, h2⟩ := ih (i + 1) (by omega)
    rw [drop_at xs i (by omega)]
    by_cases hc : s.toList = (rdOf ByteArray.empty xs (i : Int)).toList
    · refine ⟨(i : Int), Ev.up ?_, ?_⟩
      · simp only [slices_Index_string_string.l0]; exact Ev.pos (by omega) (Ev.pos (by omega) (Ev.pos (by omega) (Ev.pos hc (Ev.now _))))
      · rw [rdOf_str, tl, tl] at hc
        have h' : hasB (xs.getD i ByteArray.empty :: xs.drop (i + 1)) s = true := (hasB_iff _ _).2 (by rw [← Sm.toList_inj hc]; exact List.mem_cons_self ..)
        rw [h']
        exact decide_eq_true (by omega)
    · refine ⟨t, Ev.up ?_, ?_⟩
      · simp only [slices_Index_string_string.l0]
        refine Ev.pos (by omega) (Ev.pos (by omega) (Ev.pos (by omega) (Ev.neg hc ?_)))
        rw [w1 (n := xs.length) (by omega) (by unfold maxLen; omega)]; exact h1
      · have hne : ¬ xs.getD i ByteArray.empty = s := fun h => hc (by rw [rdOf_str, h])
        have e : hasB (xs.getD i ByteArray.empty :: xs.drop (i + 1)) s = hasB (xs.drop (i + 1)) s := by unfold hasB; rw [List.any_cons, decide_eq_false hne, Bool.false_or]
        rw [e]
        exact h2
theorem dropT (xs : List S35) (i : Nat) (h : i < xs.length) : xs.drop i = xs.getD i z35 :: xs.drop (i + 1) := by
  rw [List.drop_eq_getElem_cons h, List.getD_eq_getElem?_getD, List.getElem?_eq_getElem h]
  rfl
mutual
theorem freeX_len : ∀ (x : S35) (f : ByteArray → Int) (acc : List ByteArray), (freeX x f acc).length ≤ acc.length + ndTerm x
  | ⟨a, nm, n, t, ls, xs⟩, f, acc => by
    have h := freeXS_len xs (bindAt a xs.length) nm 0 f acc
    rw [freeX, ndTerm]
    split
    · split
      · simp only [List.length_append, List.length_cons, List.length_nil]; omega
      · omega
    · omega
theorem freeXS_len : ∀ (xs : List S35) (b : Int) (nm : ByteArray) (i : Int) (f : ByteArray → Int) (acc : List ByteArray), (freeXS xs b nm i f acc).length ≤ acc.length + ndTermS xs
  | [], b, nm, i, f, acc => by rw [freeXS]; omega
  | x :: r, b, nm, i, f, acc => by
    have h1 := freeX_len x (if i = b then Sm.put f nm (f nm + 1) else f) acc
    have h2 := freeXS_len r b nm (i + 1) f (freeX x (if i = b then Sm.put f nm (f nm + 1) else f) acc)
    rw [freeXS, ndTermS]
    omega
end
theorem nd_pos (x : S35) : 1 ≤ ndTerm x := by rw [ndTerm_eq]; omega
set_option maxHeartbeats 8000000 in
set_option maxRecDepth 100000 in
theorem freeIn_go : ∀ x : S35, SmTerm x → ∀ (ad0 : Addr) (A4 : Option Addr) (c4 : Nat) (A5 : Option Addr) (c5 : Nat) (A6 : Option Addr) (c6 : Nat) (A7 : Option Addr) (c7 : Nat) (w0 w : World) (bm n : Nat) (f : ByteArray → Int) (v : Value) (acc : List ByteArray),
    Cells w0 ad0 [.int .i64 x.f0, .string x.f1, .int .i64 x.f2, .int .i64 x.f3.f0, .slice A4 x.f3.f1.length c4, .slice A5 x.f3.f2.length c5, .slice A6 x.f4.length c6, .slice A7 x.f5.length c7] →
    Kd.C Kd.string w0 A4 x.f3.f1.length x.f3.f1 → x.f3.f1.length ≤ c4 → Kd.C k32 w0 A5 x.f3.f2.length x.f3.f2 → x.f3.f2.length ≤ c5 → Kd.C Kd.string w0 A6 x.f4.length x.f4 → x.f4.length ≤ c6 → Kd.C k35 w0 A7 x.f5.length x.f5 → x.f5.length ≤ c7 →
    w0.heap.size ≤ bm → Sm.SMap eI 9 w bm n f → n + 4 * ndTerm x ≤ 1000000000 → (∀ s, 0 ≤ f s ∧ f s + ndTerm x ≤ 1000000000) → acc.length + ndTerm x ≤ 4194304 → Kd.R Kd.string 9 w w0.heap.size (fun k => k ≠ bm) v acc → Below w0.heap.size w0 w →
    Calls Tryd.prog 46 #[.pointer (some ad0), .map (some bm), v] w fun e w' => ∃ v', e = .returned v' ∧ Kd.R Kd.string 9 w' w0.heap.size (fun k => k ≠ bm) v' (freeX x f acc) ∧ (∃ n', n' + 2 ≤ n + 4 * ndTerm x ∧ Sm.SMap eI 9 w' bm n' f) ∧ Below w0.heap.size w0 w' := by
  refine indTermI fun x ih hs => ?_
  intro ad0 A4 c4 A5 c5 A6 c6 A7 c7 w0 w bm n f v acc hp h4 g4 h5 g5 h6 g6 h7 g7 hbm hm hn hf hl ho hb
  have HP := Aside0.mk hp; have H4 := Aside0.mk (And.intro h4 g4); have H5 := Aside0.mk (And.intro h5 g5); have H6 := Aside0.mk (And.intro h6 g6); have H7 := Aside0.mk (And.intro h7 g7)
  have HBM := Aside0.mk hbm; have HM := Aside0.mk hm; have HN := Aside0.mk hn; have HF := Aside0.mk hf; have HL := Aside0.mk hl; have HO := Aside0.mk ho; have HB := Aside0.mk hb
  have HS := Aside0.mk hs
  have HK : Aside0 (x.f1.size ≤ maxLen) := ⟨by have := hs.p1; unfold maxLen; omega⟩
  have HX := Aside0.mk (freeX_eq x f acc)
  have HND := Aside0.mk (nd_pos x)
  have hx0 : w.cell? ad0 = some (.int .i64 x.f0) := pw_cell_below HB.out HP.out.1
  have hx1 : w.cell? ⟨ad0.block, ad0.off + 1, none⟩ = some (.string x.f1) := pw_cell_below HB.out HP.out.2.1
  have hx7 : w.cell? ⟨ad0.block, ad0.off + 7, none⟩ = some (.slice A7 x.f5.length c7) := pw_cell_below HB.out HP.out.2.2.2.2.2.2.2.1
  clear hp h4 g4 h5 g5 h6 g6 h7 g7 hbm hm hn hf hl ho hb hs
  by_cases h1 : x.f0 = 1
  · have c1 : (x.f0 == 1) = true := beq_iff_eq.mpr h1
    have HX2 : Aside0 (freeX x f acc = if f x.f1 = 0 ∧ hasB acc x.f1 = false then acc ++ [x.f1] else acc) := ⟨by rw [HX.out, if_pos h1]⟩
    clear h1 HX ih
    obtain ⟨Av, cv, ev⟩ := Kd.R_slice HO.out
    subst ev
    by_cases hf0 : f x.f1 = 0
    · have cf : (f x.f1 == 0) = true := beq_iff_eq.mpr hf0
      have HF0 := Aside0.mk hf0
      clear hf0
      obtain ⟨K, hK⟩ := contains_ev acc (by have := HL.out; omega) x.f1
      have HC := Aside0.mk (hK K (Nat.le_refl K))
      clear hK
      by_cases hh : hasB acc x.f1 = true
      · rw [hh] at HC
        go_enter Tryd.func46, Tryd.ntmps46
        go_wp2_with (first
          | ((with_reducible refine gate_lookup (t := 68) rfl ?_); refine Sm.sget_event (E := eI) rfl rfl Tryd.underlying68 Tryd.underlying9 rfl HM.out x.f1 rfl HK.out (?_ : wpList _ _ _ _ (Act.put _ _ (.int .i64 (f x.f1))) _))
          | (go_at_call 29; refine (slices_Contains_string_string.calls K _ _ acc x.f1 true _ (Kd.R_reads' HO.out).2.2 (Kd.R_reads' HO.out).2.1 HC.out).mono ?_; rintro e w2 ⟨rfl, hd⟩; have HB2 := Aside0.mk (below_step HB.out (Drawn0.below hd)); have HO2 := Aside0.mk (Kd.R_below HO.out (Drawn0.below hd)); have HM2 := Aside0.mk (HM.out.below (Drawn0.below hd)); clear hd))
        go_ret
        refine ⟨_, rfl, ?_, ⟨n, by have := HND.out; omega, HM2.out⟩, HB2.out⟩
        rw [HX2.out, if_neg (by rw [hh]; intro h; cases h.2)]
        exact HO2.out
      · replace hh : hasB acc x.f1 = false := by simpa using hh
        rw [hh] at HC
        have HH := Aside0.mk hh
        clear hh
        go_enter Tryd.func46, Tryd.ntmps46
        go_wp2_with (first
          | ((with_reducible refine gate_lookup (t := 68) rfl ?_); refine Sm.sget_event (E := eI) rfl rfl Tryd.underlying68 Tryd.underlying9 rfl HM.out x.f1 rfl HK.out (?_ : wpList _ _ _ _ (Act.put _ _ (.int .i64 (f x.f1))) _))
          | (go_at_call 29; refine (slices_Contains_string_string.calls K _ _ acc x.f1 false _ (Kd.R_reads' HO.out).2.2 (Kd.R_reads' HO.out).2.1 HC.out).mono ?_; rintro e w2 ⟨rfl, hd⟩; have HB2 := Aside0.mk (below_step HB.out (Drawn0.below hd)); have HO2 := Aside0.mk (Kd.R_below HO.out (Drawn0.below hd)); have HM2 := Aside0.mk (HM.out.below (Drawn0.below hd)); have hy1 : w2.cell? ⟨ad0.block, ad0.off + 1, none⟩ = some (.string x.f1) := pw_cell_below HB2.out HP.out.2.1; clear hd hx0 hx1 hx7)
          | ((with_reducible refine gate_builtin (b := .append) (xs := #[.tmp 29, .tmp 34]) rfl ?_); at_builtin
             refine Kd.R_append Kd.string (w0 := w0) w0.heap.size rfl (.tmp 29) (.tmp 34) 22 9 (.string ⟨#[]⟩) 16 rfl Tryd.underlying22 info9 rfl (by decide) (by omega) _ acc x.f1 [.string x.f1] (fun k => k ≠ bm) (fun _ => False) rfl rfl ?aP (fun _ hk => hk.elim) ?aF ?aO ?aB ?aS ?aL ?_
             (case aP => exact rfl)
             (case aB => exact HB2.out)
             (case aF => exact (fun k hk e_ => by have := HM2.out.lt; omega))
             (case aO => exact HO2.out)
             (case aS => exact below_size HB2.out)
             (case aL => have := HL.out; omega)
             intro v7 w7 ho hb hg hat
             have HO7 := Aside0.mk ho
             have HM7 := Aside0.mk (HM2.out.kept hg (fun e_ => HO2.out.1 bm e_.symm rfl))
             have HB7 := Aside0.mk hb
             clear ho hb hg hat))
        go_ret
        refine ⟨_, rfl, ?_, ⟨n, by have := HND.out; omega, HM7.out⟩, HB7.out⟩
        rw [HX2.out, if_pos ⟨HF0.out, HH.out⟩]
        exact HO7.out
    · have cf : (f x.f1 == 0) = false := beq_eq_false_iff_ne.mpr hf0
      have HF0 := Aside0.mk hf0
      clear hf0
      go_enter Tryd.func46, Tryd.ntmps46
      go_wp2_with ((with_reducible refine gate_lookup (t := 68) rfl ?_); refine Sm.sget_event (E := eI) rfl rfl Tryd.underlying68 Tryd.underlying9 rfl HM.out x.f1 rfl HK.out (?_ : wpList _ _ _ _ (Act.put _ _ (.int .i64 (f x.f1))) _))
      go_ret
      refine ⟨_, rfl, ?_, ⟨n, by have := HND.out; omega, HM.out⟩, HB.out⟩
      rw [HX2.out, if_neg (fun h => HF0.out h.1)]
      exact HO.out
  · have c1 : (x.f0 == 1) = false := beq_eq_false_iff_ne.mpr h1
    have HX2 : Aside0 (freeX x f acc = freeXS x.f5 (bindAt x.f0 x.f5.length) x.f1 0 f acc) := ⟨by rw [HX.out, if_neg h1]⟩
    have HNS : Aside0 (ndTerm x = 1 + ndTermS x.f5) := ⟨by rw [ndTerm_eq, ndTermS_sum]⟩
    have HIH := Aside0.mk ih
    obtain ⟨KB, hKB⟩ := binds_ev x
    have HBI := Aside0.mk (hKB KB (Nat.le_refl KB))
    clear h1 HX ih hKB
    obtain ⟨b, hb⟩ : ∃ b, b = bindAt x.f0 x.f5.length := ⟨_, rfl⟩
    rw [← hb] at HX2 HBI
    clear hb
    go_enter Tryd.func46, Tryd.ntmps46
    go_wp2
    go_loopg [2, 42] x.f5.length (fun gq v2 v42 w' => ∃ (i : Nat) (acc' : List ByteArray) (n' : Nat), v42 = .int .i64 (i : Int) ∧ Aside0 (i + gq = x.f5.length ∧ n' + 4 * ndTermS (x.f5.drop i) + 4 ≤ n + 4 * ndTerm x ∧ acc'.length + ndTermS (x.f5.drop i) ≤ acc.length + ndTerm x ∧ freeXS (x.f5.drop i) b x.f1 (i : Int) f acc' = freeX x f acc) ∧ Aside0 (Kd.R Kd.string 9 w' w0.heap.size (fun k => k ≠ bm) v2 acc') ∧ Aside0 (Sm.SMap eI 9 w' bm n' f) ∧ Aside0 (Below w0.heap.size w0 w'))
    case atStart => exact ⟨0, acc, n, by first | rfl | simp, ⟨by omega, by rw [List.drop_zero, HNS.out]; omega, by rw [List.drop_zero, HNS.out]; omega, by rw [List.drop_zero, HX2.out]; rfl⟩, HO, HM, HB⟩
    case round =>
      clear HO HM HB hx0 hx1 hx7
      obtain ⟨i, acc', n', rfl, HI, HO, HM, HB⟩ := hrel
      have hx0 : wr.cell? ad0 = some (.int .i64 x.f0) := pw_cell_below HB.out HP.out.1
      have hx1 : wr.cell? ⟨ad0.block, ad0.off + 1, none⟩ = some (.string x.f1) := pw_cell_below HB.out HP.out.2.1
      have hx7 : wr.cell? ⟨ad0.block, ad0.off + 7, none⟩ = some (.slice A7 x.f5.length c7) := pw_cell_below HB.out HP.out.2.2.2.2.2.2.2.1
      by_cases d1 : i < x.f5.length
      · have d2 : (i : Int) < (x.f5.length : Int) := by omega
        have d4 : decide ((i : Int) < (x.f5.length : Int)) = true := decide_eq_true d2
        have d3 := eq_true d2
        have d5 : (0 ≤ (i : Int)) = True := eq_true (by omega)
        have hmem : rd_T35 x.f5 (i : Int) ∈ x.f5 := mem_getD x.f5 z35 i d1
        have hdr : Aside0 (x.f5.drop i = rd_T35 x.f5 (i : Int) :: x.f5.drop (i + 1)) := ⟨dropT x.f5 i d1⟩
        have hnd2 : Aside0 (ndTermS (x.f5.drop i) = ndTerm (rd_T35 x.f5 (i : Int)) + ndTermS (x.f5.drop (i + 1))) := ⟨by rw [hdr.out, ndTermS]⟩
        have hsub : Aside0 (ndTerm (rd_T35 x.f5 (i : Int)) ≤ ndTermS x.f5) := ⟨by rw [ndTermS_sum]; exact sum_le_of_mem ndTerm hmem⟩
        have hpos := Aside0.mk (nd_pos (rd_T35 x.f5 (i : Int)))
        have HY := Aside0.mk (HIH.out _ hmem (HS.out.p5.2 _ hmem))
        have hw1 : Aside0 (wrap64 ((i : Int) + 1) = ((i + 1 : Nat) : Int)) := ⟨w1 d1 (by have := HS.out.p5.1; unfold maxLen; omega)⟩
        obtain ⟨ad, B4, e4, B5, e5, B6, e6, B7, e7, eA, y0, y1, y2, y3, y4, y5, y6, y7, m4, o4, m5, o5, m6, o6, m7, o7⟩ := at_T35 H7.out.1 (i : Int) (by omega) d2
        cases eA
        replace HY := Aside0.mk (HY.out (ad.add (i * 8)) B4 e4 B5 e5 B6 e6 B7 e7 w0)
        replace HY := Aside0.mk (fun w bm n f v acc => HY.out w bm n f v acc (show Cells w0 _ _ from ⟨y0, y1, y2, y3, y4, y5, y6, y7, trivial⟩) o4 m4 o5 m5 o6 m6 o7 m7)
        have D1 := Aside0.mk d1
        clear d1 d2 hmem y0 y1 y2 y3 y4 y5 y6 y7 m4 o4 m5 o5 m6 o6 m7 o7 HIH
        go_upto_if 48 with (go_at_call 27; refine (impl_binds.calls KB ad0 x.f0 x.f1 x.f2 x.f3.f0 _ _ x.f3.f1 _ _ x.f3.f2 _ _ x.f4 _ _ x.f5 b _ (Cells_below HP.out HB.out) (Kd.C_below H4.out.1 HB.out) H4.out.2 (Kd.C_below H5.out.1 HB.out) H5.out.2 (Kd.C_below H6.out.1 HB.out) H6.out.2 (Kd.C_below H7.out.1 HB.out) H7.out.2 HBI.out).mono ?_; rintro e w2 ⟨rfl, hd⟩; have HB2 := Aside0.mk (below_step HB.out (Drawn0.below hd)); have HO2 := Aside0.mk (Kd.R_below HO.out (Drawn0.below hd)); have HM2 := Aside0.mk (HM.out.below (Drawn0.below hd)); have hz1 : w2.cell? ⟨ad0.block, ad0.off + 1, none⟩ = some (.string x.f1) := pw_cell_below HB2.out HP.out.2.1; have hz7 : w2.cell? ⟨ad0.block, ad0.off + 7, none⟩ = some (.slice (some ad) x.f5.length c7) := pw_cell_below HB2.out HP.out.2.2.2.2.2.2.2.1; clear hd hx0 hx1 hx7)
        have hfb := Aside0.mk (HF.out x.f1)
        by_cases hib : (i : Int) = b
        · have cb : ((i : Int) == b) = true := beq_iff_eq.mpr hib
          have HIB := Aside0.mk hib
          have hwa : Aside0 (wrap64 (f x.f1 + 1) = f x.f1 + 1) := ⟨w64 (by have := hfb.out; omega) (by have := hfb.out; omega)⟩
          clear hib
          (first | rw [cb] | (simp only [i64_w, i32_w]; rw [cb]) | skip)
          go_upto_region 10 with (first
            | ((with_reducible refine gate_lookup (t := 68) rfl ?_); refine Sm.sget_event (E := eI) rfl rfl Tryd.underlying68 Tryd.underlying9 rfl HM2.out x.f1 rfl HK.out (?_ : wpList _ _ _ _ (Act.put _ _ (.int .i64 (f x.f1))) _))
            | ((with_reducible refine gate_mapUpdate (t := 68) rfl ?_)
               refine Sm.sput_event (E := eI) rfl rfl Tryd.underlying68 Tryd.underlying9 rfl HM2.out (by have := HI.out.2.1; have := HN.out; unfold maxLen; omega) x.f1 (wrap64 (f x.f1 + 1)) rfl rfl HK.out (by rw [hwa.out]; exact WalkArith.wf_i64 (by have := hfb.out; omega)) ?_
               intro w3 him hg
               rw [hwa.out] at him
               have HM3 := Aside0.mk him
               have HO3 := Aside0.mk (Kd.R_grown HO2.out hg (fun k hk e_ => hk (by injection e_)))
               have HB3 := Aside0.mk (pw_below_grown HB2.out _ (below_size HB2.out) hg (fun k_ e_ => by injection e_ with e_; rw [← e_]; exact HBM.out))
               have hq1 : w3.cell? ⟨ad0.block, ad0.off + 1, none⟩ = some (.string x.f1) := pw_cell_below HB3.out HP.out.2.1
               have hq7 : w3.cell? ⟨ad0.block, ad0.off + 7, none⟩ = some (.slice (some ad) x.f5.length c7) := pw_cell_below HB3.out HP.out.2.2.2.2.2.2.2.1
               clear him hg hz1 hz7))
          go_upto_region 11 with (go_at_call 46; refine (HY.out w3 bm (n' + 1) (Sm.put f x.f1 (f x.f1 + 1)) _ acc' HBM.out HM3.out ?g1 ?g2 ?g3 HO3.out HB3.out).mono ?_; (case g1 => have := HI.out.2.1; have := HN.out; have := hnd2.out; omega); (case g2 => intro s; have h8 := HF.out s; have h9 := hfb.out; have := HNS.out; have := hsub.out; unfold Sm.put; split <;> omega); (case g3 => have := HI.out.2.2.1; have := HL.out; have := hnd2.out; omega); rintro e w4 ⟨v', rfl, ho, ⟨n2, hn2, hm⟩, hb4⟩; have HO4 := Aside0.mk ho; have HN4 := Aside0.mk hn2; have HM4 := Aside0.mk hm; have HB4 := Aside0.mk hb4; have hr1 : w4.cell? ⟨ad0.block, ad0.off + 1, none⟩ = some (.string x.f1) := pw_cell_below HB4.out HP.out.2.1; clear ho hn2 hm hb4 hq1 hq7)
          have hpu : Aside0 (Sm.put f x.f1 (f x.f1 + 1) x.f1 = f x.f1 + 1) := ⟨by unfold Sm.put; rw [if_pos rfl]⟩
          have hws : Aside0 (wrap64 (f x.f1) = f x.f1) := ⟨by rw [w64 (by have := hfb.out; omega) (by have := hfb.out; omega)]⟩
          go_wp2_with (first
            | ((with_reducible refine gate_lookup (t := 68) rfl ?_); refine Sm.sget_event (E := eI) rfl rfl Tryd.underlying68 Tryd.underlying9 rfl HM4.out x.f1 rfl HK.out ?_; rw [hpu.out]; refine (?_ : wpList _ _ _ _ (Act.put _ _ (.int .i64 (f x.f1 + 1))) _))
            | ((with_reducible refine gate_mapUpdate (t := 68) rfl ?_)
               refine Sm.sput_event (E := eI) rfl rfl Tryd.underlying68 Tryd.underlying9 rfl HM4.out (by have := HN4.out; have := HI.out.2.1; have := HN.out; have := hnd2.out; unfold maxLen; omega) x.f1 (wrap64 (f x.f1)) rfl rfl HK.out (by rw [hws.out]; exact WalkArith.wf_i64 (by have := hfb.out; omega)) ?_
               intro w5 him hg
               rw [hws.out] at him
               have HM5 : Aside0 (Sm.SMap eI 9 w5 bm (n2 + 1) f) := ⟨him.congr (fun s => by unfold Sm.put; split <;> simp_all)⟩
               have HO5 := Aside0.mk (Kd.R_grown HO4.out hg (fun k hk e_ => hk (by injection e_)))
               have HB5 := Aside0.mk (pw_below_grown HB4.out _ (below_size HB4.out) hg (fun k_ e_ => by injection e_ with e_; rw [← e_]; exact HBM.out))
               clear him hg hr1))
          go_roundg (gk - 1)
          case measure => have := HI.out; have := D1.out; omega
          case rel => exact ⟨i + 1, _, n2 + 1, (by rw [← hw1.out]), ⟨by have := HI.out; have := D1.out; omega, by have := HI.out.2.1; have := HN4.out; have := hnd2.out; omega, by have h1 := freeX_len (rd_T35 x.f5 (i : Int)) (Sm.put f x.f1 (f x.f1 + 1)) acc'; have := HI.out.2.2.1; have := hnd2.out; omega, by rw [← HI.out.2.2.2, hdr.out, freeXS, if_pos HIB.out]; rfl⟩, HO5, HM5, HB5⟩
        · have cb : ((i : Int) == b) = false := beq_eq_false_iff_ne.mpr hib
          have HIB := Aside0.mk hib
          clear hib
          (first | rw [cb] | (simp only [i64_w, i32_w]; rw [cb]) | skip)
          go_wp2_with (go_at_call 46; refine (HY.out w2 bm n' f _ acc' HBM.out HM2.out ?g1 ?g2 ?g3 HO2.out HB2.out).mono ?_; (case g1 => have := HI.out.2.1; have := HN.out; have := hnd2.out; omega); (case g2 => intro s; have h8 := HF.out s; have := HNS.out; have := hsub.out; omega); (case g3 => have := HI.out.2.2.1; have := HL.out; have := hnd2.out; omega); rintro e w4 ⟨v', rfl, ho, ⟨n2, hn2, hm⟩, hb4⟩; have HO4 := Aside0.mk ho; have HN4 := Aside0.mk hn2; have HM4 := Aside0.mk hm; have HB4 := Aside0.mk hb4; clear ho hn2 hm hb4 hz1 hz7)
          go_roundg (gk - 1)
          case measure => have := HI.out; have := D1.out; omega
          case rel => exact ⟨i + 1, _, n2, (by rw [← hw1.out]), ⟨by have := HI.out; have := D1.out; omega, by have := HI.out.2.1; have := HN4.out; have := hnd2.out; omega, by have h1 := freeX_len (rd_T35 x.f5 (i : Int)) f acc'; have := HI.out.2.2.1; have := hnd2.out; omega, by rw [← HI.out.2.2.2, hdr.out, freeXS, if_neg HIB.out]; rfl⟩, HO4, HM4, HB4⟩
      · have d4 : decide ((i : Int) < (x.f5.length : Int)) = false := decide_eq_false (by omega)
        have d5 : ¬ ((i : Int) < (x.f5.length : Int)) := by omega
        have hz : Aside0 (acc' = freeX x f acc ∧ n' + 2 ≤ n + 4 * ndTerm x) := ⟨by have h := HI.out; rw [List.drop_of_length_le (by omega)] at h; exact ⟨h.2.2.2, by have := h.2.1; omega⟩⟩
        clear d1
        go_wp2
        go_ret
        exact ⟨_, rfl, by rw [← hz.out.1]; exact HO.out, ⟨n', hz.out.2, HM.out⟩, HB.out⟩

end Go.Proofs.YtpckkjeapfdilaaDoor.Px
end
