/- Printed by a program of this session: what functions of the translation come to, each contract as it stands. No condition. -/
import Derived.Test.YtaakdfbfgabdbaaZTypesSh
import Derived.Test.YtaakdfbfgabdbaaZTypesExtM
import Derived.Test.YtaakdfbfgabdbaaZTypesPt6M
import Derived.Test.YtaakdfbfgabdbaaZTypesPt7M
section
namespace Go.Proofs.Ytaakdfbfgabdbaa.Pt
set_option maxHeartbeats 8000000
set_option maxRecDepth 100000
open Go.RowKit Go.Proofs.Ytaakdfbfgabdbaa.Ext Go.Proofs.YtaakdfbfgabdbaaW.PrintWords Go.Proofs.YtaakdfbfgabdbaaW.PrintLast Go.Proofs.YtaakdfbfgabdbaaW.PrintMore
attribute [local go_sem] max2_int min2_int max_two min_two max_three min_three max_four min_four   -- for this text's walks alone
set_option linter.unusedVariables false
set_option linter.unusedSimpArgs false

/-! ### impl_IsValidType: function 9 -/
def impl_IsValidType.f (k : Nat) (a0_0 : Int) (l0_1 : List ByteArray) (l0_2 : List (S27)) : Option (Bool) := (impl_typeForm.f k a0_0 l0_1 l0_2 false 1).bind fun t372 => (if t372 = true then ((impl_SizeOfType.f k a0_0 l0_1 l0_2).bind fun t373 => (some (decide (t373 ≤ 24)))) else (some false))
theorem impl_IsValidType.calls (k : Nat) (a0_0 : Int) (A0_1 : Option Addr) (c0_1 : Nat) (l0_1 : List ByteArray) (A0_2 : Option Addr) (c0_2 : Nat) (l0_2 : List (S27)) (r : Bool) (w : World) (hr0_1 : Kd.C Kd.string w A0_1 l0_1.length l0_1) (hc0_1 : l0_1.length ≤ c0_1) (hr0_2 : Kd.C k27 w A0_2 l0_2.length l0_2) (hc0_2 : l0_2.length ≤ c0_2) (h : impl_IsValidType.f k a0_0 l0_1 l0_2 = some r) :
  Calls Try.prog 9 #[.agg #[.int .i64 a0_0, .slice A0_1 l0_1.length c0_1, .slice A0_2 l0_2.length c0_2]] w fun e w' => e = .returned (.bool r) ∧ Below w.heap.size w w' := by
 have hu27 := Try.underlying27
 have HR0_1 := Aside0.mk hr0_1
 have HC0_1 := Aside0.mk hc0_1
 clear hr0_1 hc0_1
 have HR0_2 := Aside0.mk hr0_2
 have HC0_2 := Aside0.mk hc0_2
 clear hr0_2 hc0_2
 have HB := Aside0.mk (Below.refl w.heap.size w)
 have H : ((impl_typeForm.f k a0_0 l0_1 l0_2 false 1).bind fun t372 => (if t372 = true then ((impl_SizeOfType.f k a0_0 l0_1 l0_2).bind fun t373 => (some (decide (t373 ≤ 24)))) else (some false))) = some r := h
 clear h
 replace H := Option.bind_eq_some_iff.mp H
 obtain ⟨t372, A20, H⟩ := H
 replace H : (if t372 = true then ((impl_SizeOfType.f k a0_0 l0_1 l0_2).bind fun t373 => (some (decide (t373 ≤ 24)))) else (some false)) = some r := H
 have A2 := Aside0.mk A20
 clear A20
 by_cases c3 : t372 = true
 case neg =>
  replace c3 := Bool.eq_false_iff.mpr c3
  subst c3
  have H1 : (some false) = some r := by rw [if_neg (show ¬ (false = true) by decide)] at H; exact H
  clear H
  have H := H1
  clear H1
  obtain rfl := Option.some.inj H
  go_enter Try.func9, Try.ntmps9
  go_wp2_with (first | ((with_reducible refine gate_dst (N := 1) rfl ?_); refine box_event ?hg (N := 1) ?hd (cs := #[.int .i64 a0_0, .slice A0_1 l0_1.length c0_1, .slice A0_2 l0_2.length c0_2]) (t := 27) ?hr ?_; (case hd => rfl); (case hg => rfl); (case hr => exact hrw); intro gb371 hg w9 hbox hb; have n0_ := Aside0.mk (below_step blw hb); have n1_ := Aside0.mk (hbox); have n2_ := Aside0.mk ((by rw [hg]; exact (below_size blw) : w.heap.size ≤ gb371)); have n3_ := n2_; clear HB; revert n0_ n1_ n2_ n3_; intro HB BK371 GW371 GE371; clear hb hbox hg) | ((with_reducible refine gate_callee (f := 24) rfl ?_); refine goesL_ (some 3) rfl rfl Try.func24 kr rfl #[.pointer (some ⟨gb371, 0, none⟩), .bool false, .int .i64 1] rfl mpw ?_; (with_reducible refine (impl_typeForm.calls k ⟨gb371, 0, none⟩ a0_0 A0_1 c0_1 l0_1 A0_2 c0_2 l0_2 false 1 false _ ?side1 ?side2 ?side3 ?side4 ?side5 A2.out).mono ?_); (case side1 => exact Cells_blk bkw); (case side2 => have X_ := HR0_1; exact cbl); (case side3 => exact HC0_1.out); (case side4 => have X_ := HR0_2; exact cbl); (case side5 => exact HC0_2.out); rintro e w10 ⟨rfl, hb⟩; refine ⟨_, rfl, ?_⟩; have n0_ := Aside0.mk (blk_below (g := gb371) (o := .cells #[.int .i64 a0_0, .slice A0_1 l0_1.length c0_1, .slice A0_2 l0_2.length c0_2] 27 (0, 0)) bkw hb); have n1_ := Aside0.mk (below_step blw hb); clear BK371; clear HB; revert n0_ n1_; intro BK371 HB; (try clear hb); (try clear hb2); (try clear hk); (try clear hi)))
  go_ret
  exact ⟨rfw, blw⟩
 subst c3
 have H1 : ((impl_SizeOfType.f k a0_0 l0_1 l0_2).bind fun t373 => (some (decide (t373 ≤ 24)))) = some r := by rw [if_pos rfl] at H; exact H
 clear H
 have H := H1
 clear H1
 replace H := Option.bind_eq_some_iff.mp H
 obtain ⟨t373, A40, H⟩ := H
 replace H : (some (decide (t373 ≤ 24))) = some r := H
 have A4 := Aside0.mk A40
 clear A40
 obtain rfl := Option.some.inj H
 go_enter Try.func9, Try.ntmps9
 go_wp2_with (first | ((with_reducible refine gate_dst (N := 1) rfl ?_); refine box_event ?hg (N := 1) ?hd (cs := #[.int .i64 a0_0, .slice A0_1 l0_1.length c0_1, .slice A0_2 l0_2.length c0_2]) (t := 27) ?hr ?_; (case hd => rfl); (case hg => rfl); (case hr => exact hrw); intro gb371 hg w5 hbox hb; have n0_ := Aside0.mk (below_step blw hb); have n1_ := Aside0.mk (hbox); have n2_ := Aside0.mk ((by rw [hg]; exact (below_size blw) : w.heap.size ≤ gb371)); have n3_ := n2_; clear HB; revert n0_ n1_ n2_ n3_; intro HB BK371 GW371 GE371; clear hb hbox hg) | ((with_reducible refine gate_callee (f := 24) rfl ?_); refine goesL_ (some 3) rfl rfl Try.func24 kr rfl #[.pointer (some ⟨gb371, 0, none⟩), .bool false, .int .i64 1] rfl mpw ?_; (with_reducible refine (impl_typeForm.calls k ⟨gb371, 0, none⟩ a0_0 A0_1 c0_1 l0_1 A0_2 c0_2 l0_2 false 1 true _ ?side1 ?side2 ?side3 ?side4 ?side5 A2.out).mono ?_); (case side1 => exact Cells_blk bkw); (case side2 => have X_ := HR0_1; exact cbl); (case side3 => exact HC0_1.out); (case side4 => have X_ := HR0_2; exact cbl); (case side5 => exact HC0_2.out); rintro e w6 ⟨rfl, hb⟩; refine ⟨_, rfl, ?_⟩; have n0_ := Aside0.mk (blk_below (g := gb371) (o := .cells #[.int .i64 a0_0, .slice A0_1 l0_1.length c0_1, .slice A0_2 l0_2.length c0_2] 27 (0, 0)) bkw hb); have n1_ := Aside0.mk (below_step blw hb); clear BK371; clear HB; revert n0_ n1_; intro BK371 HB; (try clear hb); (try clear hb2); (try clear hk); (try clear hi); obtain ⟨hcz7_0, hcz7_1, hcz7_2⟩ := cls3 BK371.out; obtain ⟨hfz7_0, hfz7_1, hfz7_2⟩ := frz3 BK371.out) | (go_at_call 6; (with_reducible refine (impl_SizeOfType.calls k a0_0 _ _ l0_1 _ _ l0_2 t373 _ ?side1 ?side2 ?side3 ?side4 A4.out).mono ?_); (case side1 => have X_ := HR0_1; exact cbl); (case side2 => exact HC0_1.out); (case side3 => have X_ := HR0_2; exact cbl); (case side4 => exact HC0_2.out); rintro e w8 ⟨rfl, hb⟩; have n0_ := Aside0.mk (blk_below (g := gb371) (o := .cells #[.int .i64 a0_0, .slice A0_1 l0_1.length c0_1, .slice A0_2 l0_2.length c0_2] 27 (0, 0)) bkw hb); have n1_ := Aside0.mk (below_step blw hb); clear BK371; clear HB; revert n0_ n1_; intro BK371 HB; (try clear hb); (try clear hb2); (try clear hk); (try clear hi)))
 go_ret
 exact ⟨rfw, blw⟩

/-! ### spec_l3Left: function 25 -/
mutual
def spec_l3Left.l0 : Nat → Int → Int → Int → List ByteArray → List (S27) → Option (Int)
 | 0, _, _, _, _, _ => none
 | k + 1, x1, x5, x375000, x375001, x375002 => if x5 < (x375002.length : Int) then (if x1 ≥ 0 then (if 0 ≤ x5 then ((spec_l3Left.f k ((rd_T27 x375002 x5).f0) ((rd_T27 x375002 x5).f1) ((rd_T27 x375002 x5).f2) x1).bind fun t376 => (spec_l3Left.l0 k t376 (wrap64 (x5 + 1)) x375000 x375001 x375002)) else (none)) else (some x1)) else (some x1)
def spec_l3Left.f : Nat → Int → List ByteArray → List (S27) → Int → Option (Int)
 | 0, _, _, _, _ => none
 | k + 1, a0_0, l0_1, l0_2, a1 => spec_l3Left.l0 k (wrap64 (a1 - 1)) 0 a0_0 l0_1 l0_2
end
theorem spec_l3Left.calls (k : Nat) : ∀ (a0_0 : Int) (A0_1 : Option Addr) (c0_1 : Nat) (l0_1 : List ByteArray) (A0_2 : Option Addr) (c0_2 : Nat) (l0_2 : List (S27)) (a1 : Int) (r : Int) (w : World) (hr0_1 : Kd.C Kd.string w A0_1 l0_1.length l0_1) (hc0_1 : l0_1.length ≤ c0_1) (hr0_2 : Kd.C k27 w A0_2 l0_2.length l0_2) (hc0_2 : l0_2.length ≤ c0_2) (h : spec_l3Left.f k a0_0 l0_1 l0_2 a1 = some r),
  Calls Try.prog 25 #[.agg #[.int .i64 a0_0, .slice A0_1 l0_1.length c0_1, .slice A0_2 l0_2.length c0_2], .int .i64 a1] w fun e w' => e = .returned (.int .i64 r) ∧ Below w.heap.size w w' := by
 induction k using Nat.strongRecOn with
 | _ k ih =>
 intro a0_0 A0_1 c0_1 l0_1 A0_2 c0_2 l0_2 a1 r w hr0_1 hc0_1 hr0_2 hc0_2 h
 cases k with
 | zero => exact absurd h (by simp [spec_l3Left.f])
 | succ k =>
 simp only [spec_l3Left.f] at h
 have hu27 := Try.underlying27
 have HR0_1 := Aside0.mk hr0_1
 have HC0_1 := Aside0.mk hc0_1
 clear hr0_1 hc0_1
 have HR0_2 := Aside0.mk hr0_2
 have HC0_2 := Aside0.mk hc0_2
 clear hr0_2 hc0_2
 have HB := Aside0.mk (Below.refl w.heap.size w)
 have H : (spec_l3Left.l0 k (wrap64 (a1 - 1)) 0 a0_0 l0_1 l0_2) = some r := h
 clear h
 have H' := Aside0.mk H
 clear H
 go_enter Try.func25, Try.ntmps25
 go_wp2_with (first | ((with_reducible refine gate_dst (N := 2) rfl ?_); refine box_event ?hg (N := 2) ?hd (cs := #[.int .i64 a0_0, .slice A0_1 l0_1.length c0_1, .slice A0_2 l0_2.length c0_2]) (t := 27) ?hr ?_; (case hd => rfl); (case hg => rfl); (case hr => exact hrw); intro gb374 hg w3 hbox hb; have n0_ := Aside0.mk (below_step blw hb); have n1_ := Aside0.mk (hbox); have n2_ := Aside0.mk ((by rw [hg]; exact (below_size blw) : w.heap.size ≤ gb374)); have n3_ := n2_; clear HB; revert n0_ n1_ n2_ n3_; intro HB BK374 GW374 GE374; clear hb hbox hg))
 go_loopg [1, 5] k (fun kq v1 v5 w' => ∃ (x1_1 : Int) (x5_1 : Int), v1 = .int .i64 x1_1 ∧ v5 = .int .i64 x5_1 ∧ Aside0 (spec_l3Left.l0 kq x1_1 x5_1 a0_0 l0_1 l0_2 = some r) ∧ Aside0 (kq ≤ k) ∧ Aside0 (w'.heap[gb374]? = some (.cells #[.int .i64 a0_0, (.slice A0_1 l0_1.length c0_1), (.slice A0_2 l0_2.length c0_2)] 27 (0, 0))) ∧ Aside0 (Below w.heap.size w w'))
 case atStart => exact ⟨(wrap64 (a1 - 1)), (0), rfs, rfs, H', ⟨Nat.le_refl _⟩, ⟨bkw⟩, ⟨blw⟩⟩
 case round =>
  clear H'
  (try clear c2); (try clear p2)
  obtain ⟨x1_1, x5_1, rfl, rfl, HA, HK1, BK374, HB⟩ := hrel
  cases gk with
  | zero => exact absurd HA.out (by simp [spec_l3Left.l0])
  | succ k1 =>
   have H := HA.out
   clear HA
   simp only [spec_l3Left.l0] at H
   by_cases c4 : x5_1 < (l0_2.length : Int)
   case neg =>
    rw [if_neg c4] at H
    have c4b0 : decide (x5_1 < (l0_2.length : Int)) = false := decide_eq_false c4
    clear c4
    obtain rfl := Option.some.inj H
    obtain ⟨hcz11_0, hcz11_1, hcz11_2⟩ := cls3 BK374.out
    obtain ⟨hfz11_0, hfz11_1, hfz11_2⟩ := frz3 BK374.out
    go_wp2
    go_ret
    exact ⟨rfw, blw⟩
   rw [if_pos c4] at H
   have c4b0 : decide (x5_1 < (l0_2.length : Int)) = true := decide_eq_true c4
   clear c4
   by_cases c5 : x1_1 ≥ 0
   case neg =>
    rw [if_neg c5] at H
    have c5b0 : decide (0 ≤ x1_1) = false := decide_eq_false c5
    clear c5
    obtain rfl := Option.some.inj H
    obtain ⟨hcz10_0, hcz10_1, hcz10_2⟩ := cls3 BK374.out
    obtain ⟨hfz10_0, hfz10_1, hfz10_2⟩ := frz3 BK374.out
    go_wp2
    go_ret
    exact ⟨rfw, blw⟩
   rw [if_pos c5] at H
   have c5b0 : decide (0 ≤ x1_1) = true := decide_eq_true c5
   clear c5
   by_cases c6 : 0 ≤ x5_1
   case neg =>
    rw [if_neg c6] at H
    exact absurd H (by simp)
   rw [if_pos c6] at H
   have c6b0 : decide (0 ≤ x5_1) = true := decide_eq_true c6
   clear c6
   replace H := Option.bind_eq_some_iff.mp H
   obtain ⟨t376, A70, H⟩ := H
   replace H : (spec_l3Left.l0 k1 t376 (wrap64 (x5_1 + 1)) a0_0 l0_1 l0_2) = some r := H
   have A7 := Aside0.mk A70
   clear A70
   have H' := Aside0.mk H
   clear H
   obtain ⟨hcz8_0, hcz8_1, hcz8_2⟩ := cls3 BK374.out
   obtain ⟨hfz8_0, hfz8_1, hfz8_2⟩ := frz3 BK374.out
   have p375 : 0 ≤ (x5_1 : Int) := of_decide_eq_true asw
   have q375 : x5_1 < (l0_2.length : Int) := of_decide_eq_true asw
   obtain ⟨ad375, A375_1, c375_1, A375_2, c375_2, e375, hx375_0, hx375_1, hx375_2, hl375_1, hi375_1, hl375_2, hi375_2⟩ := at_T27 HR0_2.out x5_1 p375 q375
   cases e375
   replace hx375_0 := upw HB.out hx375_0
   replace hx375_1 := upw HB.out hx375_1
   replace hx375_2 := upw HB.out hx375_2
   have HR375_1 := Aside0.mk hi375_1
   have HC375_1 := Aside0.mk hl375_1
   clear hi375_1 hl375_1
   have HR375_2 := Aside0.mk hi375_2
   have HC375_2 := Aside0.mk hl375_2
   clear hi375_2 hl375_2
   replace p375 := eq_true p375
   replace q375 := eq_true q375
   go_wp2_with (first | ((with_reducible refine gate_callee (f := 25) rfl ?_); refine goesL_ (some 25) rfl rfl Try.func25 kr rfl #[.agg #[.int .i64 ((rd_T27 l0_2 x5_1).f0), .slice A375_1 ((rd_T27 l0_2 x5_1).f1).length c375_1, .slice A375_2 ((rd_T27 l0_2 x5_1).f2).length c375_2], .int .i64 x1_1] rfl mpw ?_; (with_reducible refine (ih k1 (by have := HK1.out; omega) ((rd_T27 l0_2 x5_1).f0) _ _ ((rd_T27 l0_2 x5_1).f1) _ _ ((rd_T27 l0_2 x5_1).f2) x1_1 t376 _ ?side1 ?side2 ?side3 ?side4 A7.out).mono ?_); (case side1 => have X_ := HR375_1; exact cbl); (case side2 => exact HC375_1.out); (case side3 => have X_ := HR375_2; exact cbl); (case side4 => exact HC375_2.out); rintro e w9 ⟨rfl, hb⟩; refine ⟨_, rfl, ?_⟩; have n0_ := Aside0.mk (blk_below (g := gb374) (o := .cells #[.int .i64 a0_0, .slice A0_1 l0_1.length c0_1, .slice (some ad375) l0_2.length c0_2] 27 (0, 0)) bkw hb); have n1_ := Aside0.mk (below_step blw hb); clear BK374; clear HB; revert n0_ n1_; intro BK374 HB; (try clear hb); (try clear hb2); (try clear hk); (try clear hi)))
   go_roundg k1
   case measure => have := HK1.out; omega
   case rel => exact ⟨(t376), (wrap64 (x5_1 + 1)), rfs, rfs, H', ⟨by have := HK1.out; omega⟩, ⟨bkw⟩, ⟨blw⟩⟩

/-! ### spec_l1Max: function 49 -/
def spec_l1Max.f (a0 : Int) (a1 : Int) : Option (Int) := if a0 > a1 then (some a0) else (some a1)
theorem spec_l1Max.calls (a0 : Int) (a1 : Int) (r : Int) (w : World) (h : spec_l1Max.f a0 a1 = some r) :
  Calls Try.prog 49 #[.int .i64 a0, .int .i64 a1] w fun e w' => e = .returned (.int .i64 r) ∧ Drawn0 w w' := by
 have H : (if a0 > a1 then (some a0) else (some a1)) = some r := h
 clear h
 by_cases c3 : a0 > a1
 ·rw [if_pos c3] at H
  have c3b0 : decide (a1 < a0) = true := decide_eq_true c3
  clear c3
  obtain rfl := Option.some.inj H
  go_enter Try.func49, Try.ntmps49
  go_wp2
  go_ret
  exact ⟨rfs, by repeat (first | exact Drawn0.refl _ | apply Drawn0.step)⟩
 rw [if_neg c3] at H
 have c3b0 : decide (a1 < a0) = false := decide_eq_false c3
 clear c3
 obtain rfl := Option.some.inj H
 go_enter Try.func49, Try.ntmps49
 go_wp2
 go_ret
 exact ⟨rfs, by repeat (first | exact Drawn0.refl _ | apply Drawn0.step)⟩

/-! ### spec_DepthOfType: function 26 -/
mutual
def spec_DepthOfType.l0 : Nat → Int → Int → Int → List ByteArray → List (S27) → Option (Int)
 | 0, _, _, _, _, _ => none
 | k + 1, x3, x4, x378000, x378001, x378002 => if x4 < (x378002.length : Int) then (if 0 ≤ x4 then ((spec_DepthOfType.f k ((rd_T27 x378002 x4).f0) ((rd_T27 x378002 x4).f1) ((rd_T27 x378002 x4).f2)).bind fun t379 => ((spec_l1Max.f x3 t379).bind fun t380 => (spec_DepthOfType.l0 k t380 (wrap64 (x4 + 1)) x378000 x378001 x378002))) else (none)) else (some (wrap64 (x3 + 1)))
def spec_DepthOfType.f : Nat → Int → List ByteArray → List (S27) → Option (Int)
 | 0, _, _, _ => none
 | k + 1, a0_0, l0_1, l0_2 => spec_DepthOfType.l0 k 0 0 a0_0 l0_1 l0_2
end
theorem spec_DepthOfType.calls (k : Nat) : ∀ (a0_0 : Int) (A0_1 : Option Addr) (c0_1 : Nat) (l0_1 : List ByteArray) (A0_2 : Option Addr) (c0_2 : Nat) (l0_2 : List (S27)) (r : Int) (w : World) (hr0_1 : Kd.C Kd.string w A0_1 l0_1.length l0_1) (hc0_1 : l0_1.length ≤ c0_1) (hr0_2 : Kd.C k27 w A0_2 l0_2.length l0_2) (hc0_2 : l0_2.length ≤ c0_2) (h : spec_DepthOfType.f k a0_0 l0_1 l0_2 = some r),
  Calls Try.prog 26 #[.agg #[.int .i64 a0_0, .slice A0_1 l0_1.length c0_1, .slice A0_2 l0_2.length c0_2]] w fun e w' => e = .returned (.int .i64 r) ∧ Below w.heap.size w w' := by
 induction k using Nat.strongRecOn with
 | _ k ih =>
 intro a0_0 A0_1 c0_1 l0_1 A0_2 c0_2 l0_2 r w hr0_1 hc0_1 hr0_2 hc0_2 h
 cases k with
 | zero => exact absurd h (by simp [spec_DepthOfType.f])
 | succ k =>
 simp only [spec_DepthOfType.f] at h
 have hu27 := Try.underlying27
 have HR0_1 := Aside0.mk hr0_1
 have HC0_1 := Aside0.mk hc0_1
 clear hr0_1 hc0_1
 have HR0_2 := Aside0.mk hr0_2
 have HC0_2 := Aside0.mk hc0_2
 clear hr0_2 hc0_2
 have HB := Aside0.mk (Below.refl w.heap.size w)
 have H : (spec_DepthOfType.l0 k 0 0 a0_0 l0_1 l0_2) = some r := h
 clear h
 have H' := Aside0.mk H
 clear H
 go_enter Try.func26, Try.ntmps26
 go_wp2_with (first | ((with_reducible refine gate_dst (N := 1) rfl ?_); refine box_event ?hg (N := 1) ?hd (cs := #[.int .i64 a0_0, .slice A0_1 l0_1.length c0_1, .slice A0_2 l0_2.length c0_2]) (t := 27) ?hr ?_; (case hd => rfl); (case hg => rfl); (case hr => exact hrw); intro gb377 hg w2 hbox hb; have n0_ := Aside0.mk (below_step blw hb); have n1_ := Aside0.mk (hbox); have n2_ := Aside0.mk ((by rw [hg]; exact (below_size blw) : w.heap.size ≤ gb377)); have n3_ := n2_; clear HB; revert n0_ n1_ n2_ n3_; intro HB BK377 GW377 GE377; clear hb hbox hg))
 go_loopg [3, 4] k (fun kq v3 v4 w' => ∃ (x3_1 : Int) (x4_1 : Int), v3 = .int .i64 x3_1 ∧ v4 = .int .i64 x4_1 ∧ Aside0 (spec_DepthOfType.l0 kq x3_1 x4_1 a0_0 l0_1 l0_2 = some r) ∧ Aside0 (kq ≤ k) ∧ Aside0 (w'.heap[gb377]? = some (.cells #[.int .i64 a0_0, (.slice A0_1 l0_1.length c0_1), (.slice A0_2 l0_2.length c0_2)] 27 (0, 0))) ∧ Aside0 (Below w.heap.size w w'))
 case atStart => exact ⟨(0), (0), rfs, rfs, H', ⟨Nat.le_refl _⟩, ⟨bkw⟩, ⟨blw⟩⟩
 case round =>
  clear H'
  (try clear c2); (try clear p2)
  obtain ⟨x3_1, x4_1, rfl, rfl, HA, HK1, BK377, HB⟩ := hrel
  cases gk with
  | zero => exact absurd HA.out (by simp [spec_DepthOfType.l0])
  | succ k1 =>
   have H := HA.out
   clear HA
   simp only [spec_DepthOfType.l0] at H
   by_cases c3 : x4_1 < (l0_2.length : Int)
   case neg =>
    rw [if_neg c3] at H
    have c3b0 : decide (x4_1 < (l0_2.length : Int)) = false := decide_eq_false c3
    clear c3
    obtain rfl := Option.some.inj H
    obtain ⟨hcz9_0, hcz9_1, hcz9_2⟩ := cls3 BK377.out
    obtain ⟨hfz9_0, hfz9_1, hfz9_2⟩ := frz3 BK377.out
    go_wp2
    go_ret
    exact ⟨rfw, blw⟩
   rw [if_pos c3] at H
   have c3b0 : decide (x4_1 < (l0_2.length : Int)) = true := decide_eq_true c3
   clear c3
   by_cases c4 : 0 ≤ x4_1
   case neg =>
    rw [if_neg c4] at H
    exact absurd H (by simp)
   rw [if_pos c4] at H
   have c4b0 : decide (0 ≤ x4_1) = true := decide_eq_true c4
   clear c4
   replace H := Option.bind_eq_some_iff.mp H
   obtain ⟨t379, A50, H⟩ := H
   replace H : ((spec_l1Max.f x3_1 t379).bind fun t380 => (spec_DepthOfType.l0 k1 t380 (wrap64 (x4_1 + 1)) a0_0 l0_1 l0_2)) = some r := H
   have A5 := Aside0.mk A50
   clear A50
   replace H := Option.bind_eq_some_iff.mp H
   obtain ⟨t380, A60, H⟩ := H
   replace H : (spec_DepthOfType.l0 k1 t380 (wrap64 (x4_1 + 1)) a0_0 l0_1 l0_2) = some r := H
   have A6 := Aside0.mk A60
   clear A60
   have H' := Aside0.mk H
   clear H
   obtain ⟨hcz7_0, hcz7_1, hcz7_2⟩ := cls3 BK377.out
   obtain ⟨hfz7_0, hfz7_1, hfz7_2⟩ := frz3 BK377.out
   have p378 : 0 ≤ (x4_1 : Int) := of_decide_eq_true asw
   have q378 : x4_1 < (l0_2.length : Int) := of_decide_eq_true asw
   obtain ⟨ad378, A378_1, c378_1, A378_2, c378_2, e378, hx378_0, hx378_1, hx378_2, hl378_1, hi378_1, hl378_2, hi378_2⟩ := at_T27 HR0_2.out x4_1 p378 q378
   cases e378
   replace hx378_0 := upw HB.out hx378_0
   replace hx378_1 := upw HB.out hx378_1
   replace hx378_2 := upw HB.out hx378_2
   have HR378_1 := Aside0.mk hi378_1
   have HC378_1 := Aside0.mk hl378_1
   clear hi378_1 hl378_1
   have HR378_2 := Aside0.mk hi378_2
   have HC378_2 := Aside0.mk hl378_2
   clear hi378_2 hl378_2
   replace p378 := eq_true p378
   replace q378 := eq_true q378
   go_wp2_with (first | ((with_reducible refine gate_callee (f := 26) rfl ?_); refine goesL_ (some 18) rfl rfl Try.func26 kr rfl #[.agg #[.int .i64 ((rd_T27 l0_2 x4_1).f0), .slice A378_1 ((rd_T27 l0_2 x4_1).f1).length c378_1, .slice A378_2 ((rd_T27 l0_2 x4_1).f2).length c378_2]] rfl mpw ?_; (with_reducible refine (ih k1 (by have := HK1.out; omega) ((rd_T27 l0_2 x4_1).f0) _ _ ((rd_T27 l0_2 x4_1).f1) _ _ ((rd_T27 l0_2 x4_1).f2) t379 _ ?side1 ?side2 ?side3 ?side4 A5.out).mono ?_); (case side1 => have X_ := HR378_1; exact cbl); (case side2 => exact HC378_1.out); (case side3 => have X_ := HR378_2; exact cbl); (case side4 => exact HC378_2.out); rintro e w8 ⟨rfl, hb⟩; refine ⟨_, rfl, ?_⟩; have n0_ := Aside0.mk (blk_below (g := gb377) (o := .cells #[.int .i64 a0_0, .slice A0_1 l0_1.length c0_1, .slice (some ad378) l0_2.length c0_2] 27 (0, 0)) bkw hb); have n1_ := Aside0.mk (below_step blw hb); clear BK377; clear HB; revert n0_ n1_; intro BK377 HB; (try clear hb); (try clear hb2); (try clear hk); (try clear hi)) | ((with_reducible refine gate_callee (f := 49) rfl ?_); refine goesL_ (some 19) rfl rfl Try.func49 kr rfl #[.int .i64 x3_1, .int .i64 t379] rfl mpw ?_; (with_reducible refine (spec_l1Max.calls x3_1 t379 t380 _ A6.out).mono ?_); rintro e w' ⟨rfl, ⟨nd, rfl⟩⟩; refine ⟨_, rfl, ?_⟩))
   go_roundg k1
   case measure => have := HK1.out; omega
   case rel => exact ⟨(t380), (wrap64 (x4_1 + 1)), rfs, rfs, H', ⟨by have := HK1.out; omega⟩, ⟨bkw⟩, ⟨blw⟩⟩

/-! ### spec_l3Has: function 28 -/
mutual
def spec_l3Has.l0 : Nat → Int → Int → Int → List ByteArray → List (S27) → Option (Bool)
 | 0, _, _, _, _, _ => none
 | k + 1, x1, x5, x382000, x382001, x382002 => if x5 < (x382002.length : Int) then (if 0 ≤ x5 then ((spec_l3Has.f k ((rd_T27 x382002 x5).f0) ((rd_T27 x382002 x5).f1) ((rd_T27 x382002 x5).f2) x1).bind fun t383 => (if t383 = true then (some true) else (spec_l3Has.l0 k x1 (wrap64 (x5 + 1)) x382000 x382001 x382002))) else (none)) else (some (x382000 == x1))
def spec_l3Has.f : Nat → Int → List ByteArray → List (S27) → Int → Option (Bool)
 | 0, _, _, _, _ => none
 | k + 1, a0_0, l0_1, l0_2, a1 => spec_l3Has.l0 k a1 0 a0_0 l0_1 l0_2
end
theorem spec_l3Has.calls (k : Nat) : ∀ (a0_0 : Int) (A0_1 : Option Addr) (c0_1 : Nat) (l0_1 : List ByteArray) (A0_2 : Option Addr) (c0_2 : Nat) (l0_2 : List (S27)) (a1 : Int) (r : Bool) (w : World) (hr0_1 : Kd.C Kd.string w A0_1 l0_1.length l0_1) (hc0_1 : l0_1.length ≤ c0_1) (hr0_2 : Kd.C k27 w A0_2 l0_2.length l0_2) (hc0_2 : l0_2.length ≤ c0_2) (h : spec_l3Has.f k a0_0 l0_1 l0_2 a1 = some r),
  Calls Try.prog 28 #[.agg #[.int .i64 a0_0, .slice A0_1 l0_1.length c0_1, .slice A0_2 l0_2.length c0_2], .int .i64 a1] w fun e w' => e = .returned (.bool r) ∧ Below w.heap.size w w' := by
 induction k using Nat.strongRecOn with
 | _ k ih =>
 intro a0_0 A0_1 c0_1 l0_1 A0_2 c0_2 l0_2 a1 r w hr0_1 hc0_1 hr0_2 hc0_2 h
 cases k with
 | zero => exact absurd h (by simp [spec_l3Has.f])
 | succ k =>
 simp only [spec_l3Has.f] at h
 have hu27 := Try.underlying27
 have HR0_1 := Aside0.mk hr0_1
 have HC0_1 := Aside0.mk hc0_1
 clear hr0_1 hc0_1
 have HR0_2 := Aside0.mk hr0_2
 have HC0_2 := Aside0.mk hc0_2
 clear hr0_2 hc0_2
 have HB := Aside0.mk (Below.refl w.heap.size w)
 have H : (spec_l3Has.l0 k a1 0 a0_0 l0_1 l0_2) = some r := h
 clear h
 have H' := Aside0.mk H
 clear H
 go_enter Try.func28, Try.ntmps28
 go_wp2_with (first | ((with_reducible refine gate_dst (N := 2) rfl ?_); refine box_event ?hg (N := 2) ?hd (cs := #[.int .i64 a0_0, .slice A0_1 l0_1.length c0_1, .slice A0_2 l0_2.length c0_2]) (t := 27) ?hr ?_; (case hd => rfl); (case hg => rfl); (case hr => exact hrw); intro gb381 hg w3 hbox hb; have n0_ := Aside0.mk (below_step blw hb); have n1_ := Aside0.mk (hbox); have n2_ := Aside0.mk ((by rw [hg]; exact (below_size blw) : w.heap.size ≤ gb381)); have n3_ := n2_; clear HB; revert n0_ n1_ n2_ n3_; intro HB BK381 GW381 GE381; clear hb hbox hg))
 go_loopg [5] k (fun kq v5 w' => ∃ (x5_1 : Int), v5 = .int .i64 x5_1 ∧ Aside0 (spec_l3Has.l0 kq a1 x5_1 a0_0 l0_1 l0_2 = some r) ∧ Aside0 (kq ≤ k) ∧ Aside0 (w'.heap[gb381]? = some (.cells #[.int .i64 a0_0, (.slice A0_1 l0_1.length c0_1), (.slice A0_2 l0_2.length c0_2)] 27 (0, 0))) ∧ Aside0 (Below w.heap.size w w'))
 case atStart => exact ⟨(0), rfs, H', ⟨Nat.le_refl _⟩, ⟨bkw⟩, ⟨blw⟩⟩
 case round =>
  clear H'
  (try clear c2); (try clear p2)
  obtain ⟨x5_1, rfl, HA, HK1, BK381, HB⟩ := hrel
  cases gk with
  | zero => exact absurd HA.out (by simp [spec_l3Has.l0])
  | succ k1 =>
   have H := HA.out
   clear HA
   simp only [spec_l3Has.l0] at H
   by_cases c4 : x5_1 < (l0_2.length : Int)
   case neg =>
    rw [if_neg c4] at H
    have c4b0 : decide (x5_1 < (l0_2.length : Int)) = false := decide_eq_false c4
    clear c4
    obtain rfl := Option.some.inj H
    obtain ⟨hcz11_0, hcz11_1, hcz11_2⟩ := cls3 BK381.out
    obtain ⟨hfz11_0, hfz11_1, hfz11_2⟩ := frz3 BK381.out
    go_wp2
    go_ret
    exact ⟨rfw, blw⟩
   rw [if_pos c4] at H
   have c4b0 : decide (x5_1 < (l0_2.length : Int)) = true := decide_eq_true c4
   clear c4
   by_cases c5 : 0 ≤ x5_1
   case neg =>
    rw [if_neg c5] at H
    exact absurd H (by simp)
   rw [if_pos c5] at H
   have c5b0 : decide (0 ≤ x5_1) = true := decide_eq_true c5
   clear c5
   replace H := Option.bind_eq_some_iff.mp H
   obtain ⟨t383, A60, H⟩ := H
   replace H : (if t383 = true then (some true) else (spec_l3Has.l0 k1 a1 (wrap64 (x5_1 + 1)) a0_0 l0_1 l0_2)) = some r := H
   have A6 := Aside0.mk A60
   clear A60
   have HC7 := Aside0.mk H
   clear H
   obtain ⟨hcz8_0, hcz8_1, hcz8_2⟩ := cls3 BK381.out
   obtain ⟨hfz8_0, hfz8_1, hfz8_2⟩ := frz3 BK381.out
   have p382 : 0 ≤ (x5_1 : Int) := of_decide_eq_true asw
   have q382 : x5_1 < (l0_2.length : Int) := of_decide_eq_true asw
   obtain ⟨ad382, A382_1, c382_1, A382_2, c382_2, e382, hx382_0, hx382_1, hx382_2, hl382_1, hi382_1, hl382_2, hi382_2⟩ := at_T27 HR0_2.out x5_1 p382 q382
   cases e382
   replace hx382_0 := upw HB.out hx382_0
   replace hx382_1 := upw HB.out hx382_1
   replace hx382_2 := upw HB.out hx382_2
   have HR382_1 := Aside0.mk hi382_1
   have HC382_1 := Aside0.mk hl382_1
   clear hi382_1 hl382_1
   have HR382_2 := Aside0.mk hi382_2
   have HC382_2 := Aside0.mk hl382_2
   clear hi382_2 hl382_2
   replace p382 := eq_true p382
   replace q382 := eq_true q382
   go_upto_if 19 with (first | ((with_reducible refine gate_callee (f := 28) rfl ?_); refine goesL_ (some 19) rfl rfl Try.func28 kr rfl #[.agg #[.int .i64 ((rd_T27 l0_2 x5_1).f0), .slice A382_1 ((rd_T27 l0_2 x5_1).f1).length c382_1, .slice A382_2 ((rd_T27 l0_2 x5_1).f2).length c382_2], .int .i64 a1] rfl mpw ?_; (with_reducible refine (ih k1 (by have := HK1.out; omega) ((rd_T27 l0_2 x5_1).f0) _ _ ((rd_T27 l0_2 x5_1).f1) _ _ ((rd_T27 l0_2 x5_1).f2) a1 t383 _ ?side1 ?side2 ?side3 ?side4 A6.out).mono ?_); (case side1 => have X_ := HR382_1; exact cbl); (case side2 => exact HC382_1.out); (case side3 => have X_ := HR382_2; exact cbl); (case side4 => exact HC382_2.out); rintro e w9 ⟨rfl, hb⟩; refine ⟨_, rfl, ?_⟩; have n0_ := Aside0.mk (blk_below (g := gb381) (o := .cells #[.int .i64 a0_0, .slice A0_1 l0_1.length c0_1, .slice (some ad382) l0_2.length c0_2] 27 (0, 0)) bkw hb); have n1_ := Aside0.mk (below_step blw hb); clear BK381; clear HB; revert n0_ n1_; intro BK381 HB; (try clear hb); (try clear hb2); (try clear hk); (try clear hi)))
   have H := HC7.out
   clear HC7
   by_cases c10 : t383 = true
   ·subst c10
    have H1 : (some true) = some r := by rw [if_pos rfl] at H; exact H
    clear H
    have H := H1
    clear H1
    obtain rfl := Option.some.inj H
    go_wp2
    go_ret
    exact ⟨rfw, blw⟩
   replace c10 := Bool.eq_false_iff.mpr c10
   subst c10
   have H1 : (spec_l3Has.l0 k1 a1 (wrap64 (x5_1 + 1)) a0_0 l0_1 l0_2) = some r := by rw [if_neg (show ¬ (false = true) by decide)] at H; exact H
   clear H
   have H := H1
   clear H1
   have H' := Aside0.mk H
   clear H
   go_wp2
   go_roundg k1
   case measure => have := HK1.out; omega
   case rel => exact ⟨(wrap64 (x5_1 + 1)), rfs, H', ⟨by have := HK1.out; omega⟩, ⟨bkw⟩, ⟨blw⟩⟩

/-! ### spec_l1In: function 60 -/
def spec_l1In.f (a0 : Int) (a1 : Int) (a2 : Int) : Option (Bool) := if a0 ≥ a1 then (some (decide (a0 ≤ a2))) else (some false)
theorem spec_l1In.calls (a0 : Int) (a1 : Int) (a2 : Int) (r : Bool) (w : World) (h : spec_l1In.f a0 a1 a2 = some r) :
  Calls Try.prog 60 #[.int .i64 a0, .int .i64 a1, .int .i64 a2] w fun e w' => e = .returned (.bool r) ∧ Drawn0 w w' := by
 have H : (if a0 ≥ a1 then (some (decide (a0 ≤ a2))) else (some false)) = some r := h
 clear h
 by_cases c4 : a0 ≥ a1
 ·rw [if_pos c4] at H
  have c4b0 : decide (a1 ≤ a0) = true := decide_eq_true c4
  clear c4
  obtain rfl := Option.some.inj H
  go_enter Try.func60, Try.ntmps60
  go_wp2
  go_ret
  exact ⟨rfs, by repeat (first | exact Drawn0.refl _ | apply Drawn0.step)⟩
 rw [if_neg c4] at H
 have c4b0 : decide (a1 ≤ a0) = false := decide_eq_false c4
 clear c4
 obtain rfl := Option.some.inj H
 go_enter Try.func60, Try.ntmps60
 go_wp2
 go_ret
 exact ⟨rfs, by repeat (first | exact Drawn0.refl _ | apply Drawn0.step)⟩

end Go.Proofs.Ytaakdfbfgabdbaa.Pt
end
section
namespace Go.Proofs.Ytaakdfbfgabdbaa.Pt
open Go.RowKit Go.Proofs.YtaakdfbfgabdbaaW.PrintWords Go.Proofs.YtaakdfbfgabdbaaW.PrintLast Go.Proofs.Ytaakdfbfgabdbaa.Pl Go.Proofs.Ytaakdfbfgabdbaa.Ext
set_option linter.unusedVariables false
set_option linter.unusedSimpArgs false
theorem spec_l1Max_eq (a b : Int) : spec_l1Max.f a b = some (mx a b) := by
  rw [mx_eq]; unfold spec_l1Max.f; split <;> rfl
theorem DepthOfType_same_ : ∀ x : S27, SmType x → Same (fun k => spec_DepthOfType.f k x.f0 x.f1 x.f2) (fun k => impl_DepthOfType.f k x.f0 x.f1 x.f2) := by
  refine indTypeI fun x ih hs => ?_
  refine Same.up ?_
  simp only [spec_DepthOfType.f, impl_DepthOfType.f]
  refine Same.loop x.f2.length (fun k (s : Int) i => spec_DepthOfType.l0 k s (i : Int) x.f0 x.f1 x.f2) (fun k s i => impl_DepthOfType.l0 k s x.f2 (x.f2.length : Int) (i : Int)) (fun s => ?_) (fun i s hi ihl => ?_) 0
  · refine Same.up ?_
    simp only [spec_DepthOfType.l0, impl_DepthOfType.l0]
    exact Same.neg (by omega) (by omega) (Same.ret rfl)
  · refine Same.up ?_
    simp only [spec_DepthOfType.l0, impl_DepthOfType.l0, w1' hi hs.p2.1, spec_l1Max_eq, Option.bind_some]
    refine Same.pos (by omega) (by omega) (Same.pos (by omega) (by omega) (Same.posR (by omega) ?_))
    exact Same.bind (ih (x.f2.getD i z27) (mem_getD x.f2 z27 i hi) (hs.p2.2 _ (mem_getD x.f2 z27 i hi))) (fun t _ _ => ihl _)
theorem DepthOfType_same (x : S27) (hs : SmType x) (hn : ndType x ≤ 1048577) : Same (fun k => spec_DepthOfType.f k x.f0 x.f1 x.f2) (fun k => impl_DepthOfType.f k x.f0 x.f1 x.f2) := DepthOfType_same_ x hs

end Go.Proofs.Ytaakdfbfgabdbaa.Pt
end
section
namespace Go.Proofs.Ytaakdfbfgabdbaa.Pt
set_option maxHeartbeats 8000000
set_option maxRecDepth 100000
open Go.RowKit Go.Proofs.Ytaakdfbfgabdbaa.Ext Go.Proofs.YtaakdfbfgabdbaaW.PrintWords Go.Proofs.YtaakdfbfgabdbaaW.PrintLast Go.Proofs.YtaakdfbfgabdbaaW.PrintMore
attribute [local go_sem] max2_int min2_int max_two min_two max_three min_three max_four min_four   -- for this text's walks alone
set_option linter.unusedVariables false
set_option linter.unusedSimpArgs false

/-! ### spec_IsName: function 59 -/
def spec_IsName.l0 : Nat → ByteArray → Int → Option (Bool)
 | 0, _, _ => none
 | k + 1, x0, x3 => if x3 < (x0.size : Int) then (if 0 ≤ x3 then (if (bt x0 x3) ≥ 97 then (if ((bt x0 x3) ≤ 122) then (spec_IsName.l0 k x0 (wrap64 (x3 + 1))) else (if x3 = 0 then (some false) else (if (bt x0 x3) < 48 then (some false) else (if (bt x0 x3) > 57 then (some false) else (spec_IsName.l0 k x0 (wrap64 (x3 + 1))))))) else (if x3 = 0 then (some false) else (if (bt x0 x3) < 48 then (some false) else (if (bt x0 x3) > 57 then (some false) else (spec_IsName.l0 k x0 (wrap64 (x3 + 1))))))) else (none)) else ((spec_l1In.f (x0.size : Int) 1 4).bind fun t384 => (if t384 = true then (if x0.toList = ([105, 102] : List UInt8) then (some false) else (some (x0.toList != ([102, 111, 114] : List UInt8)))) else (some false)))
def spec_IsName.f (k : Nat) (a0 : ByteArray) : Option (Bool) := spec_IsName.l0 k a0 0
theorem spec_IsName.calls (k : Nat) (a0 : ByteArray) (r : Bool) (w : World) (h : spec_IsName.f k a0 = some r) :
  Calls Try.prog 59 #[.string a0] w fun e w' => e = .returned (.bool r) ∧ Drawn0 w w' := by
 have H : (spec_IsName.l0 k a0 0) = some r := h
 clear h
 have H' := Aside0.mk H
 clear H
 go_enter Try.func59, Try.ntmps59
 go_wp2
 go_loopg [3] k (fun kq v3 w' => ∃ (x3_1 : Int), v3 = .int .i64 x3_1 ∧ Aside0 (spec_IsName.l0 kq a0 x3_1 = some r) ∧ Aside0 (kq ≤ k) ∧ Drawn0 w w')
 case atStart => exact ⟨(0), rfs, H', ⟨Nat.le_refl _⟩, by repeat (first | exact Drawn0.refl _ | apply Drawn0.step)⟩
 case round =>
  clear H'
  obtain ⟨x3_1, rfl, HA, HK1, ⟨m1, rfl⟩⟩ := hrel
  cases gk with
  | zero => exact absurd HA.out (by simp [spec_IsName.l0])
  | succ k1 =>
   have H := HA.out
   clear HA
   simp only [spec_IsName.l0] at H
   by_cases c2 : x3_1 < (a0.size : Int)
   case neg =>
    rw [if_neg c2] at H
    have c2b0 : decide (x3_1 < (a0.size : Int)) = false := decide_eq_false c2
    clear c2
    replace H := Option.bind_eq_some_iff.mp H
    obtain ⟨t384, A190, H⟩ := H
    replace H : (if t384 = true then (if a0.toList = ([105, 102] : List UInt8) then (some false) else (some (a0.toList != ([102, 111, 114] : List UInt8)))) else (some false)) = some r := H
    have A19 := Aside0.mk A190
    clear A190
    by_cases c20 : t384 = true
    case neg =>
     replace c20 := Bool.eq_false_iff.mpr c20
     subst c20
     have H1 : (some false) = some r := by rw [if_neg (show ¬ (false = true) by decide)] at H; exact H
     clear H
     have H := H1
     clear H1
     obtain rfl := Option.some.inj H
     go_wp2_with (first | ((with_reducible refine gate_callee (f := 60) rfl ?_); refine goesL_ (some 41) rfl rfl Try.func60 kr rfl #[.int .i64 (a0.size : Int), .int .i64 1, .int .i64 4] rfl mpw ?_; (with_reducible refine (spec_l1In.calls (a0.size : Int) 1 4 false _ A19.out).mono ?_); rintro e w' ⟨rfl, ⟨nd, rfl⟩⟩; refine ⟨_, rfl, ?_⟩))
     go_ret
     exact ⟨rfs, by repeat (first | exact Drawn0.refl _ | apply Drawn0.step)⟩
    subst c20
    have H1 : (if a0.toList = ([105, 102] : List UInt8) then (some false) else (some (a0.toList != ([102, 111, 114] : List UInt8)))) = some r := by rw [if_pos rfl] at H; exact H
    clear H
    have H := H1
    clear H1
    by_cases c21 : a0.toList = ([105, 102] : List UInt8)
    case neg =>
     rw [if_neg c21] at H
     have c21b0 : (a0.toList == ([105, 102] : List UInt8)) = false := beq_eq_false_iff_ne.mpr c21
     have c21b1 : (a0.toList != ([105, 102] : List UInt8)) = true := bne_iff_ne.mpr c21
     obtain rfl := Option.some.inj H
     go_wp2_with (first | ((with_reducible refine gate_callee (f := 60) rfl ?_); refine goesL_ (some 41) rfl rfl Try.func60 kr rfl #[.int .i64 (a0.size : Int), .int .i64 1, .int .i64 4] rfl mpw ?_; (with_reducible refine (spec_l1In.calls (a0.size : Int) 1 4 true _ A19.out).mono ?_); rintro e w' ⟨rfl, ⟨nd, rfl⟩⟩; refine ⟨_, rfl, ?_⟩))
     go_ret
     exact ⟨rfs, by repeat (first | exact Drawn0.refl _ | apply Drawn0.step)⟩
    rw [if_pos c21] at H
    have c21b0 : (a0.toList == ([105, 102] : List UInt8)) = true := beq_iff_eq.mpr c21
    have c21b1 : (a0.toList != ([105, 102] : List UInt8)) = false := bne_eq_false_iff_eq.mpr c21
    clear c21
    obtain rfl := Option.some.inj H
    go_wp2_with (first | ((with_reducible refine gate_callee (f := 60) rfl ?_); refine goesL_ (some 41) rfl rfl Try.func60 kr rfl #[.int .i64 (a0.size : Int), .int .i64 1, .int .i64 4] rfl mpw ?_; (with_reducible refine (spec_l1In.calls (a0.size : Int) 1 4 true _ A19.out).mono ?_); rintro e w' ⟨rfl, ⟨nd, rfl⟩⟩; refine ⟨_, rfl, ?_⟩))
    go_ret
    exact ⟨rfs, by repeat (first | exact Drawn0.refl _ | apply Drawn0.step)⟩
   rw [if_pos c2] at H
   have c2b0 : decide (x3_1 < (a0.size : Int)) = true := decide_eq_true c2
   clear c2
   by_cases c3 : 0 ≤ x3_1
   case neg =>
    rw [if_neg c3] at H
    exact absurd H (by simp)
   rw [if_pos c3] at H
   have c3b0 : decide (0 ≤ x3_1) = true := decide_eq_true c3
   clear c3
   by_cases c5 : (bt a0 x3_1) ≥ 97
   case neg =>
    rw [if_neg c5] at H
    have c5b0 : decide (97 ≤ (bt a0 x3_1)) = false := decide_eq_false c5
    clear c5
    by_cases c14 : x3_1 = 0
    ·rw [if_pos c14] at H
     have c14b0 : (x3_1 == 0) = true := beq_iff_eq.mpr c14
     have c14b1 : (x3_1 != 0) = false := bne_eq_false_iff_eq.mpr c14
     clear c14
     obtain rfl := Option.some.inj H
     have p4 : 0 ≤ (x3_1 : Int) := of_decide_eq_true asw
     have q4 : x3_1 < (a0.size : Int) := of_decide_eq_true asw
     have hx4 := bt_at a0 x3_1
     replace p4 := eq_true p4
     replace q4 := eq_true q4
     go_wp2
     go_ret
     exact ⟨rfs, by repeat (first | exact Drawn0.refl _ | apply Drawn0.step)⟩
    rw [if_neg c14] at H
    have c14b0 : (x3_1 == 0) = false := beq_eq_false_iff_ne.mpr c14
    have c14b1 : (x3_1 != 0) = true := bne_iff_ne.mpr c14
    by_cases c16 : (bt a0 x3_1) < 48
    ·rw [if_pos c16] at H
     have c16b0 : decide ((bt a0 x3_1) < 48) = true := decide_eq_true c16
     clear c16
     obtain rfl := Option.some.inj H
     have p4 : 0 ≤ (x3_1 : Int) := of_decide_eq_true asw
     have q4 : x3_1 < (a0.size : Int) := of_decide_eq_true asw
     have hx4 := bt_at a0 x3_1
     replace p4 := eq_true p4
     replace q4 := eq_true q4
     have p15 : 0 ≤ (x3_1 : Int) := of_decide_eq_true asw
     have q15 : x3_1 < (a0.size : Int) := of_decide_eq_true asw
     have hx15 := bt_at a0 x3_1
     replace p15 := eq_true p15
     replace q15 := eq_true q15
     go_wp2
     go_ret
     exact ⟨rfs, by repeat (first | exact Drawn0.refl _ | apply Drawn0.step)⟩
    rw [if_neg c16] at H
    have c16b0 : decide ((bt a0 x3_1) < 48) = false := decide_eq_false c16
    clear c16
    by_cases c18 : (bt a0 x3_1) > 57
    ·rw [if_pos c18] at H
     have c18b0 : decide (57 < (bt a0 x3_1)) = true := decide_eq_true c18
     clear c18
     obtain rfl := Option.some.inj H
     have p4 : 0 ≤ (x3_1 : Int) := of_decide_eq_true asw
     have q4 : x3_1 < (a0.size : Int) := of_decide_eq_true asw
     have hx4 := bt_at a0 x3_1
     replace p4 := eq_true p4
     replace q4 := eq_true q4
     have p15 : 0 ≤ (x3_1 : Int) := of_decide_eq_true asw
     have q15 : x3_1 < (a0.size : Int) := of_decide_eq_true asw
     have hx15 := bt_at a0 x3_1
     replace p15 := eq_true p15
     replace q15 := eq_true q15
     have p17 : 0 ≤ (x3_1 : Int) := of_decide_eq_true asw
     have q17 : x3_1 < (a0.size : Int) := of_decide_eq_true asw
     have hx17 := bt_at a0 x3_1
     replace p17 := eq_true p17
     replace q17 := eq_true q17
     go_wp2
     go_ret
     exact ⟨rfs, by repeat (first | exact Drawn0.refl _ | apply Drawn0.step)⟩
    rw [if_neg c18] at H
    have c18b0 : decide (57 < (bt a0 x3_1)) = false := decide_eq_false c18
    clear c18
    have H' := Aside0.mk H
    clear H
    have p4 : 0 ≤ (x3_1 : Int) := of_decide_eq_true asw
    have q4 : x3_1 < (a0.size : Int) := of_decide_eq_true asw
    have hx4 := bt_at a0 x3_1
    replace p4 := eq_true p4
    replace q4 := eq_true q4
    have p15 : 0 ≤ (x3_1 : Int) := of_decide_eq_true asw
    have q15 : x3_1 < (a0.size : Int) := of_decide_eq_true asw
    have hx15 := bt_at a0 x3_1
    replace p15 := eq_true p15
    replace q15 := eq_true q15
    have p17 : 0 ≤ (x3_1 : Int) := of_decide_eq_true asw
    have q17 : x3_1 < (a0.size : Int) := of_decide_eq_true asw
    have hx17 := bt_at a0 x3_1
    replace p17 := eq_true p17
    replace q17 := eq_true q17
    go_wp2
    go_roundg k1
    case measure => have := HK1.out; omega
    case rel => exact ⟨(wrap64 (x3_1 + 1)), rfs, H', ⟨by have := HK1.out; omega⟩, by repeat (first | exact Drawn0.refl _ | apply Drawn0.step)⟩
   rw [if_pos c5] at H
   have c5b0 : decide (97 ≤ (bt a0 x3_1)) = true := decide_eq_true c5
   clear c5
   by_cases c7 : ((bt a0 x3_1) ≤ 122)
   ·rw [if_pos c7] at H
    have c7b0 : decide ((bt a0 x3_1) ≤ 122) = true := decide_eq_true c7
    clear c7
    have H' := Aside0.mk H
    clear H
    have p4 : 0 ≤ (x3_1 : Int) := of_decide_eq_true asw
    have q4 : x3_1 < (a0.size : Int) := of_decide_eq_true asw
    have hx4 := bt_at a0 x3_1
    replace p4 := eq_true p4
    replace q4 := eq_true q4
    have p6 : 0 ≤ (x3_1 : Int) := of_decide_eq_true asw
    have q6 : x3_1 < (a0.size : Int) := of_decide_eq_true asw
    have hx6 := bt_at a0 x3_1
    replace p6 := eq_true p6
    replace q6 := eq_true q6
    go_wp2
    go_roundg k1
    case measure => have := HK1.out; omega
    case rel => exact ⟨(wrap64 (x3_1 + 1)), rfs, H', ⟨by have := HK1.out; omega⟩, by repeat (first | exact Drawn0.refl _ | apply Drawn0.step)⟩
   rw [if_neg c7] at H
   have c7b0 : decide ((bt a0 x3_1) ≤ 122) = false := decide_eq_false c7
   clear c7
   by_cases c8 : x3_1 = 0
   ·rw [if_pos c8] at H
    have c8b0 : (x3_1 == 0) = true := beq_iff_eq.mpr c8
    have c8b1 : (x3_1 != 0) = false := bne_eq_false_iff_eq.mpr c8
    clear c8
    obtain rfl := Option.some.inj H
    have p4 : 0 ≤ (x3_1 : Int) := of_decide_eq_true asw
    have q4 : x3_1 < (a0.size : Int) := of_decide_eq_true asw
    have hx4 := bt_at a0 x3_1
    replace p4 := eq_true p4
    replace q4 := eq_true q4
    have p6 : 0 ≤ (x3_1 : Int) := of_decide_eq_true asw
    have q6 : x3_1 < (a0.size : Int) := of_decide_eq_true asw
    have hx6 := bt_at a0 x3_1
    replace p6 := eq_true p6
    replace q6 := eq_true q6
    go_wp2
    go_ret
    exact ⟨rfs, by repeat (first | exact Drawn0.refl _ | apply Drawn0.step)⟩
   rw [if_neg c8] at H
   have c8b0 : (x3_1 == 0) = false := beq_eq_false_iff_ne.mpr c8
   have c8b1 : (x3_1 != 0) = true := bne_iff_ne.mpr c8
   by_cases c10 : (bt a0 x3_1) < 48
   ·rw [if_pos c10] at H
    have c10b0 : decide ((bt a0 x3_1) < 48) = true := decide_eq_true c10
    clear c10
    obtain rfl := Option.some.inj H
    have p4 : 0 ≤ (x3_1 : Int) := of_decide_eq_true asw
    have q4 : x3_1 < (a0.size : Int) := of_decide_eq_true asw
    have hx4 := bt_at a0 x3_1
    replace p4 := eq_true p4
    replace q4 := eq_true q4
    have p6 : 0 ≤ (x3_1 : Int) := of_decide_eq_true asw
    have q6 : x3_1 < (a0.size : Int) := of_decide_eq_true asw
    have hx6 := bt_at a0 x3_1
    replace p6 := eq_true p6
    replace q6 := eq_true q6
    have p9 : 0 ≤ (x3_1 : Int) := of_decide_eq_true asw
    have q9 : x3_1 < (a0.size : Int) := of_decide_eq_true asw
    have hx9 := bt_at a0 x3_1
    replace p9 := eq_true p9
    replace q9 := eq_true q9
    go_wp2
    go_ret
    exact ⟨rfs, by repeat (first | exact Drawn0.refl _ | apply Drawn0.step)⟩
   rw [if_neg c10] at H
   have c10b0 : decide ((bt a0 x3_1) < 48) = false := decide_eq_false c10
   clear c10
   have HC12 := Aside0.mk H
   clear H
   have p4 : 0 ≤ (x3_1 : Int) := of_decide_eq_true asw
   have q4 : x3_1 < (a0.size : Int) := of_decide_eq_true asw
   have hx4 := bt_at a0 x3_1
   replace p4 := eq_true p4
   replace q4 := eq_true q4
   have p6 : 0 ≤ (x3_1 : Int) := of_decide_eq_true asw
   have q6 : x3_1 < (a0.size : Int) := of_decide_eq_true asw
   have hx6 := bt_at a0 x3_1
   replace p6 := eq_true p6
   replace q6 := eq_true q6
   have p9 : 0 ≤ (x3_1 : Int) := of_decide_eq_true asw
   have q9 : x3_1 < (a0.size : Int) := of_decide_eq_true asw
   have hx9 := bt_at a0 x3_1
   replace p9 := eq_true p9
   replace q9 := eq_true q9
   have p11 : 0 ≤ (x3_1 : Int) := of_decide_eq_true asw
   have q11 : x3_1 < (a0.size : Int) := of_decide_eq_true asw
   have hx11 := bt_at a0 x3_1
   replace p11 := eq_true p11
   replace q11 := eq_true q11
   go_upto_if 38 with (fail)
   have H := HC12.out
   clear HC12
   by_cases c13 : (bt a0 x3_1) > 57
   ·rw [if_pos c13] at H
    have c13b0 : decide (57 < (bt a0 x3_1)) = true := decide_eq_true c13
    clear c13
    (first | rw [c13b0] | (simp only [i64_w, i32_w]; rw [c13b0]) | skip)
    obtain rfl := Option.some.inj H
    go_wp2
    go_ret
    exact ⟨rfs, by repeat (first | exact Drawn0.refl _ | apply Drawn0.step)⟩
   rw [if_neg c13] at H
   have c13b0 : decide (57 < (bt a0 x3_1)) = false := decide_eq_false c13
   clear c13
   (first | rw [c13b0] | (simp only [i64_w, i32_w]; rw [c13b0]) | skip)
   have H' := Aside0.mk H
   clear H
   go_wp2
   go_roundg k1
   case measure => have := HK1.out; omega
   case rel => exact ⟨(wrap64 (x3_1 + 1)), rfs, H', ⟨by have := HK1.out; omega⟩, by repeat (first | exact Drawn0.refl _ | apply Drawn0.step)⟩

/-! ### spec_AreAscending: function 61 -/
def spec_AreAscending.l0 : Nat → List ByteArray → Int → Option (Bool)
 | 0, _, _ => none
 | k + 1, x0, x3 => if x3 < (x0.length : Int) then (if 0 ≤ (wrap64 (x3 - 1)) then (if (wrap64 (x3 - 1)) < (x0.length : Int) then (if 0 ≤ x3 then (if ((Op.bytesLess ((rdOf ByteArray.empty x0 (wrap64 (x3 - 1))).toList) ((rdOf ByteArray.empty x0 x3).toList)) = true) then (spec_AreAscending.l0 k x0 (wrap64 (x3 + 1))) else (some false)) else (none)) else (none)) else (none)) else (some true)
def spec_AreAscending.f (k : Nat) (l0 : List ByteArray) : Option (Bool) := spec_AreAscending.l0 k l0 1
theorem spec_AreAscending.calls (k : Nat) (A0 : Option Addr) (c0 : Nat) (l0 : List ByteArray) (r : Bool) (w : World) (hr0 : Kd.C Kd.string w A0 l0.length l0) (hc0 : l0.length ≤ c0) (h : spec_AreAscending.f k l0 = some r) :
  Calls Try.prog 61 #[.slice A0 l0.length c0] w fun e w' => e = .returned (.bool r) ∧ Drawn0 w w' := by
 have HR0 := Aside0.mk hr0
 have HC0 := Aside0.mk hc0
 clear hr0 hc0
 have H : (spec_AreAscending.l0 k l0 1) = some r := h
 clear h
 have H' := Aside0.mk H
 clear H
 go_enter Try.func61, Try.ntmps61
 go_wp2
 repeat (go_quiet (fail); try go_wp2)
 go_loopg [3] k (fun kq v3 w' => ∃ (x3_1 : Int), v3 = .int .i64 x3_1 ∧ Aside0 (spec_AreAscending.l0 kq l0 x3_1 = some r) ∧ Aside0 (kq ≤ k) ∧ Drawn0 w w')
 case atStart => exact ⟨(1), rfs, H', ⟨Nat.le_refl _⟩, by repeat (first | exact Drawn0.refl _ | apply Drawn0.step)⟩
 case round =>
  clear H'
  obtain ⟨x3_1, rfl, HA, HK1, ⟨m1, rfl⟩⟩ := hrel
  cases gk with
  | zero => exact absurd HA.out (by simp [spec_AreAscending.l0])
  | succ k1 =>
   have H := HA.out
   clear HA
   simp only [spec_AreAscending.l0] at H
   by_cases c2 : x3_1 < (l0.length : Int)
   case neg =>
    rw [if_neg c2] at H
    have c2b0 : decide (x3_1 < (l0.length : Int)) = false := decide_eq_false c2
    clear c2
    obtain rfl := Option.some.inj H
    go_wp2
    repeat (go_quiet (fail); try go_wp2)
    go_ret
    exact ⟨rfs, by repeat (first | exact Drawn0.refl _ | apply Drawn0.step)⟩
   rw [if_pos c2] at H
   have c2b0 : decide (x3_1 < (l0.length : Int)) = true := decide_eq_true c2
   clear c2
   obtain ⟨ji3, hji3⟩ : ∃ j_ : Int, (wrap64 (x3_1 - 1)) = j_ := ⟨_, rfl⟩
   replace H : (if 0 ≤ (ji3) then (if (ji3) < (l0.length : Int) then (if 0 ≤ x3_1 then (if ((Op.bytesLess ((rdOf ByteArray.empty l0 (ji3)).toList) ((rdOf ByteArray.empty l0 x3_1).toList)) = true) then (spec_AreAscending.l0 k1 l0 (wrap64 (x3_1 + 1))) else (some false)) else (none)) else (none)) else (none)) = some r := by first | (rw [hji3] at H; exact H) | (simp only [hji3] at H ⊢; exact H)
   have hji3w : (IntKind.i64.wrap (x3_1 - 1)) = ji3 := (i64_w _).trans hji3
   by_cases c4 : 0 ≤ (ji3)
   case neg =>
    rw [if_neg c4] at H
    exact absurd H (by simp)
   rw [if_pos c4] at H
   have c4b0 : decide (0 ≤ (ji3)) = true := decide_eq_true c4
   clear c4
   by_cases c5 : (ji3) < (l0.length : Int)
   case neg =>
    rw [if_neg c5] at H
    exact absurd H (by simp)
   rw [if_pos c5] at H
   have c5b0 : decide ((ji3) < (l0.length : Int)) = true := decide_eq_true c5
   clear c5
   by_cases c6 : 0 ≤ x3_1
   case neg =>
    rw [if_neg c6] at H
    exact absurd H (by simp)
   rw [if_pos c6] at H
   have c6b0 : decide (0 ≤ x3_1) = true := decide_eq_true c6
   clear c6
   by_cases c7 : ((Op.bytesLess ((rdOf ByteArray.empty l0 (ji3)).toList) ((rdOf ByteArray.empty l0 x3_1).toList)) = true)
   case neg =>
    rw [if_neg c7] at H
    have c7b0 : (Op.bytesLess ((rdOf ByteArray.empty l0 (ji3)).toList) ((rdOf ByteArray.empty l0 x3_1).toList)) = false := by simpa using c7
    clear c7
    obtain rfl := Option.some.inj H
    have p385 : 0 ≤ ((ji3) : Int) := of_decide_eq_true asw
    have q385 : (ji3) < (l0.length : Int) := of_decide_eq_true asw
    obtain ⟨ad385, e385, hx385_0⟩ := Kd.at_string HR0.out (ji3) p385 q385
    cases e385
    replace p385 := eq_true p385
    replace q385 := eq_true q385
    have p386 : 0 ≤ (x3_1 : Int) := of_decide_eq_true asw
    have q386 : x3_1 < (l0.length : Int) := of_decide_eq_true asw
    obtain ⟨ad386, e386, hx386_0⟩ := Kd.at_string HR0.out x3_1 p386 q386
    obtain rfl : ad385 = ad386 := (by injection e386)
    replace p386 := eq_true p386
    replace q386 := eq_true q386
    go_wp2
    repeat (go_quiet (fail); try go_wp2)
    go_ret
    exact ⟨by first | rfl | (simp; done) | (simp only [← hji3] <;> (first | rfl | simp)) | (simp [*]; done), by repeat (first | exact Drawn0.refl _ | apply Drawn0.step)⟩
   rw [if_pos c7] at H
   have c7b0 : (Op.bytesLess ((rdOf ByteArray.empty l0 (ji3)).toList) ((rdOf ByteArray.empty l0 x3_1).toList)) = true := c7
   clear c7
   have H' := Aside0.mk H
   clear H
   have p385 : 0 ≤ ((ji3) : Int) := of_decide_eq_true asw
   have q385 : (ji3) < (l0.length : Int) := of_decide_eq_true asw
   obtain ⟨ad385, e385, hx385_0⟩ := Kd.at_string HR0.out (ji3) p385 q385
   cases e385
   replace p385 := eq_true p385
   replace q385 := eq_true q385
   have p386 : 0 ≤ (x3_1 : Int) := of_decide_eq_true asw
   have q386 : x3_1 < (l0.length : Int) := of_decide_eq_true asw
   obtain ⟨ad386, e386, hx386_0⟩ := Kd.at_string HR0.out x3_1 p386 q386
   obtain rfl : ad385 = ad386 := (by injection e386)
   replace p386 := eq_true p386
   replace q386 := eq_true q386
   go_wp2
   repeat (go_quiet (fail); try go_wp2)
   go_roundg k1
   case measure => have := HK1.out; omega
   case rel => exact ⟨(wrap64 (x3_1 + 1)), rfs, H', ⟨by have := HK1.out; omega⟩, by repeat (first | exact Drawn0.refl _ | apply Drawn0.step)⟩

/-! ### spec_l3Labels: function 50 -/
def spec_l3Labels.l0 : Nat → List ByteArray → Int → Option (Bool)
 | 0, _, _ => none
 | k + 1, x0, x3 => if x3 < (x0.length : Int) then (if 0 ≤ x3 then ((spec_IsName.f k (rdOf ByteArray.empty x0 x3)).bind fun t388 => (if t388 = true then (spec_l3Labels.l0 k x0 (wrap64 (x3 + 1))) else (some false))) else (none)) else ((spec_l1In.f (x0.length : Int) 1 4).bind fun t389 => (if t389 = true then ((spec_AreAscending.f k x0).bind fun t390 => (some t390)) else (some false)))
def spec_l3Labels.f (k : Nat) (l0 : List ByteArray) : Option (Bool) := spec_l3Labels.l0 k l0 0
theorem spec_l3Labels.calls (k : Nat) (A0 : Option Addr) (c0 : Nat) (l0 : List ByteArray) (r : Bool) (w : World) (hr0 : Kd.C Kd.string w A0 l0.length l0) (hc0 : l0.length ≤ c0) (h : spec_l3Labels.f k l0 = some r) :
  Calls Try.prog 50 #[.slice A0 l0.length c0] w fun e w' => e = .returned (.bool r) ∧ Drawn0 w w' := by
 have HR0 := Aside0.mk hr0
 have HC0 := Aside0.mk hc0
 clear hr0 hc0
 have H : (spec_l3Labels.l0 k l0 0) = some r := h
 clear h
 have H' := Aside0.mk H
 clear H
 go_enter Try.func50, Try.ntmps50
 go_wp2
 go_loopg [3] k (fun kq v3 w' => ∃ (x3_1 : Int), v3 = .int .i64 x3_1 ∧ Aside0 (spec_l3Labels.l0 kq l0 x3_1 = some r) ∧ Aside0 (kq ≤ k) ∧ Drawn0 w w')
 case atStart => exact ⟨(0), rfs, H', ⟨Nat.le_refl _⟩, by repeat (first | exact Drawn0.refl _ | apply Drawn0.step)⟩
 case round =>
  clear H'
  obtain ⟨x3_1, rfl, HA, HK1, ⟨m1, rfl⟩⟩ := hrel
  cases gk with
  | zero => exact absurd HA.out (by simp [spec_l3Labels.l0])
  | succ k1 =>
   have H := HA.out
   clear HA
   simp only [spec_l3Labels.l0] at H
   by_cases c2 : x3_1 < (l0.length : Int)
   ·rw [if_pos c2] at H
    have c2b0 : decide (x3_1 < (l0.length : Int)) = true := decide_eq_true c2
    clear c2
    by_cases c3 : 0 ≤ x3_1
    case neg =>
     rw [if_neg c3] at H
     exact absurd H (by simp)
    rw [if_pos c3] at H
    have c3b0 : decide (0 ≤ x3_1) = true := decide_eq_true c3
    clear c3
    replace H := Option.bind_eq_some_iff.mp H
    obtain ⟨t388, A40, H⟩ := H
    replace H : (if t388 = true then (spec_l3Labels.l0 k1 l0 (wrap64 (x3_1 + 1))) else (some false)) = some r := H
    have A4 := Aside0.mk A40
    clear A40
    have HC5 := Aside0.mk H
    clear H
    have p387 : 0 ≤ (x3_1 : Int) := of_decide_eq_true asw
    have q387 : x3_1 < (l0.length : Int) := of_decide_eq_true asw
    obtain ⟨ad387, e387, hx387_0⟩ := Kd.at_string HR0.out x3_1 p387 q387
    cases e387
    replace p387 := eq_true p387
    replace q387 := eq_true q387
    go_upto_if 15 with (first | ((with_reducible refine gate_callee (f := 59) rfl ?_); refine goesL_ (some 14) rfl rfl Try.func59 kr rfl #[.string (rdOf ByteArray.empty l0 x3_1)] rfl mpw ?_; (with_reducible refine (spec_IsName.calls k1 (rdOf ByteArray.empty l0 x3_1) t388 _ A4.out).mono ?_); rintro e w' ⟨rfl, ⟨nd, rfl⟩⟩; refine ⟨_, rfl, ?_⟩))
    have H := HC5.out
    clear HC5
    by_cases c6 : t388 = true
    case neg =>
     replace c6 := Bool.eq_false_iff.mpr c6
     subst c6
     have H1 : (some false) = some r := by rw [if_neg (show ¬ (false = true) by decide)] at H; exact H
     clear H
     have H := H1
     clear H1
     obtain rfl := Option.some.inj H
     go_wp2
     go_ret
     exact ⟨rfs, by repeat (first | exact Drawn0.refl _ | apply Drawn0.step)⟩
    subst c6
    have H1 : (spec_l3Labels.l0 k1 l0 (wrap64 (x3_1 + 1))) = some r := by rw [if_pos rfl] at H; exact H
    clear H
    have H := H1
    clear H1
    have H' := Aside0.mk H
    clear H
    go_wp2
    go_roundg k1
    case measure => have := HK1.out; omega
    case rel => exact ⟨(wrap64 (x3_1 + 1)), rfs, H', ⟨by have := HK1.out; omega⟩, by repeat (first | exact Drawn0.refl _ | apply Drawn0.step)⟩
   rw [if_neg c2] at H
   have c2b0 : decide (x3_1 < (l0.length : Int)) = false := decide_eq_false c2
   clear c2
   replace H := Option.bind_eq_some_iff.mp H
   obtain ⟨t389, A70, H⟩ := H
   replace H : (if t389 = true then ((spec_AreAscending.f k1 l0).bind fun t390 => (some t390)) else (some false)) = some r := H
   have A7 := Aside0.mk A70
   clear A70
   by_cases c8 : t389 = true
   case neg =>
    replace c8 := Bool.eq_false_iff.mpr c8
    subst c8
    have H1 : (some false) = some r := by rw [if_neg (show ¬ (false = true) by decide)] at H; exact H
    clear H
    have H := H1
    clear H1
    obtain rfl := Option.some.inj H
    go_wp2_with (first | ((with_reducible refine gate_callee (f := 60) rfl ?_); refine goesL_ (some 18) rfl rfl Try.func60 kr rfl #[.int .i64 (l0.length : Int), .int .i64 1, .int .i64 4] rfl mpw ?_; (with_reducible refine (spec_l1In.calls (l0.length : Int) 1 4 false _ A7.out).mono ?_); rintro e w' ⟨rfl, ⟨nd, rfl⟩⟩; refine ⟨_, rfl, ?_⟩))
    go_ret
    exact ⟨rfs, by repeat (first | exact Drawn0.refl _ | apply Drawn0.step)⟩
   subst c8
   have H1 : ((spec_AreAscending.f k1 l0).bind fun t390 => (some t390)) = some r := by rw [if_pos rfl] at H; exact H
   clear H
   have H := H1
   clear H1
   replace H := Option.bind_eq_some_iff.mp H
   obtain ⟨t390, A90, H⟩ := H
   replace H : (some t390) = some r := H
   have A9 := Aside0.mk A90
   clear A90
   obtain rfl := Option.some.inj H
   go_wp2_with (first | ((with_reducible refine gate_callee (f := 60) rfl ?_); refine goesL_ (some 18) rfl rfl Try.func60 kr rfl #[.int .i64 (l0.length : Int), .int .i64 1, .int .i64 4] rfl mpw ?_; (with_reducible refine (spec_l1In.calls (l0.length : Int) 1 4 true _ A7.out).mono ?_); rintro e w' ⟨rfl, ⟨nd, rfl⟩⟩; refine ⟨_, rfl, ?_⟩) | (go_at_call 61; (with_reducible refine (spec_AreAscending.calls k1 _ _ l0 t390 _ ?side1 ?side2 A9.out).mono ?_); (case side1 => have X_ := HR0; exact cbx); (case side2 => exact HC0.out); rintro e w' ⟨rfl, ⟨nd, rfl⟩⟩))
   go_ret
   exact ⟨rfs, by repeat (first | exact Drawn0.refl _ | apply Drawn0.step)⟩

end Go.Proofs.Ytaakdfbfgabdbaa.Pt
end
section
namespace Go.Proofs.Ytaakdfbfgabdbaa.Pt
open Go.RowKit Go.Proofs.Ytaakdfbfgabdbaa.Ext Go.Proofs.YtaakdfbfgabdbaaW.PrintWords Go.Proofs.YtaakdfbfgabdbaaW.PrintLast Go.Proofs.YtaakdfbfgabdbaaW.PrintMore
attribute [local go_sem] max2_int min2_int max_two min_two max_three min_three max_four min_four   -- for this text's walks alone
set_option linter.unusedVariables false
set_option linter.unusedSimpArgs false

/-! ### spec_l3Form: function 27 -/
mutual
def spec_l3Form.l0 : Nat → Int → Int → List ByteArray → List (S27) → Option (Bool)
 | 0, _, _, _, _ => none
 | k + 1, x3, x392000, x392001, x392002 => if x3 < (x392002.length : Int) then (if 0 ≤ x3 then ((spec_l3Form.f k ((rd_T27 x392002 x3).f0) ((rd_T27 x392002 x3).f1) ((rd_T27 x392002 x3).f2)).bind fun t393 => (if t393 = true then (spec_l3Form.l0 k (wrap64 (x3 + 1)) x392000 x392001 x392002) else (some false))) else (none)) else (if x392000 = 3 then (if (x392002.length : Int) = (x392001.length : Int) then ((spec_l3Labels.f k x392001).bind fun t394 => (if t394 = true then ((spec_l3Has.f k x392000 x392001 x392002 5).bind fun t395 => (some (!t395))) else (some false))) else (some false)) else (if x392000 = 4 then (if (x392002.length : Int) = 1 then (if 0 < (x392002.length : Int) then ((spec_l3Has.f k ((rd_T27 x392002 0).f0) ((rd_T27 x392002 0).f1) ((rd_T27 x392002 0).f2) 5).bind fun t397 => (spec_l3Form.j1 k t397 x392000 x392001 x392002)) else (none)) else (spec_l3Form.j1 k false x392000 x392001 x392002)) else (spec_l3Form.j1 k false x392000 x392001 x392002)))
def spec_l3Form.j1 : Nat → Bool → Int → List ByteArray → List (S27) → Option (Bool)
 | 0, _, _, _, _ => none
 | k + 1, x54, x392000, x392001, x392002 => if x54 = true then (some false) else (if x392000 = 1 then (spec_l3Form.j2 k (-1) x392000 (x392000 == 1) x392000 x392001 x392002) else (spec_l3Form.j2 k (-1) x392000 (x392000 == 2) x392000 x392001 x392002))
def spec_l3Form.j2 : Nat → Int → Int → Bool → Int → List ByteArray → List (S27) → Option (Bool)
 | 0, _, _, _, _, _, _ => none
 | k + 1, x4, x56, x57, x392000, x392001, x392002 => if x57 = true then (if (x392001.length : Int) = 0 then (some ((x392002.length : Int) == 0)) else (some false)) else (if x56 = 4 then (if (x392001.length : Int) = 0 then (some ((x392002.length : Int) == 1)) else (some false)) else (if x56 = 5 then (if (x392001.length : Int) = 0 then (some ((x392002.length : Int) == 2)) else (some false)) else (if (x392001.length : Int) = 0 then (some ((x392002.length : Int) == x4)) else (some false))))
def spec_l3Form.f : Nat → Int → List ByteArray → List (S27) → Option (Bool)
 | 0, _, _, _ => none
 | k + 1, a0_0, l0_1, l0_2 => spec_l3Form.l0 k 0 a0_0 l0_1 l0_2
end
set_option maxHeartbeats 8000000 in
set_option maxRecDepth 100000 in
theorem spec_l3Form.calls (k : Nat) : ∀ (a0_0 : Int) (A0_1 : Option Addr) (c0_1 : Nat) (l0_1 : List ByteArray) (A0_2 : Option Addr) (c0_2 : Nat) (l0_2 : List (S27)) (r : Bool) (w : World) (hr0_1 : Kd.C Kd.string w A0_1 l0_1.length l0_1) (hc0_1 : l0_1.length ≤ c0_1) (hr0_2 : Kd.C k27 w A0_2 l0_2.length l0_2) (hc0_2 : l0_2.length ≤ c0_2) (h : spec_l3Form.f k a0_0 l0_1 l0_2 = some r),
  Calls Try.prog 27 #[.agg #[.int .i64 a0_0, .slice A0_1 l0_1.length c0_1, .slice A0_2 l0_2.length c0_2]] w fun e w' => e = .returned (.bool r) ∧ Below w.heap.size w w' := by
 induction k using Nat.strongRecOn with
 | _ k ih =>
 intro a0_0 A0_1 c0_1 l0_1 A0_2 c0_2 l0_2 r w hr0_1 hc0_1 hr0_2 hc0_2 h
 cases k with
 | zero => exact absurd h (by simp [spec_l3Form.f])
 | succ k =>
 simp only [spec_l3Form.f] at h
 have hu27 := Try.underlying27
 have HR0_1 := Aside0.mk hr0_1
 have HC0_1 := Aside0.mk hc0_1
 clear hr0_1 hc0_1
 have HR0_2 := Aside0.mk hr0_2
 have HC0_2 := Aside0.mk hc0_2
 clear hr0_2 hc0_2
 have HB := Aside0.mk (Below.refl w.heap.size w)
 have H : (spec_l3Form.l0 k 0 a0_0 l0_1 l0_2) = some r := h
 clear h
 have H' := Aside0.mk H
 clear H
 go_enter Try.func27, Try.ntmps27
 go_wp2_with (first | ((with_reducible refine gate_dst (N := 1) rfl ?_); (try (refine gate_guard (by rfl) ?_; dsimp only)); refine box_event ?hg (N := 1) ?hd (cs := #[.int .i64 a0_0, .slice A0_1 l0_1.length c0_1, .slice A0_2 l0_2.length c0_2]) (t := 27) ?hr ?_; (case hd => rfl); (case hg => rfl); (case hr => exact hrw); intro gb391 hg w2 hbox hb; have n0_ := Aside0.mk (below_step blw hb); have n1_ := Aside0.mk (hbox); have n2_ := Aside0.mk ((by rw [hg]; exact (below_size blw) : w.heap.size ≤ gb391)); have n3_ := n2_; clear HB; revert n0_ n1_ n2_ n3_; intro HB BK391 GW391 GE391; clear hb hbox hg))
 go_loopg [3] k (fun kq v3 w' => ∃ (x3_1 : Int), v3 = .int .i64 x3_1 ∧ Aside0 (spec_l3Form.l0 kq x3_1 a0_0 l0_1 l0_2 = some r) ∧ Aside0 (kq ≤ k) ∧ Aside0 (w'.heap[gb391]? = some (.cells #[.int .i64 a0_0, (.slice A0_1 l0_1.length c0_1), (.slice A0_2 l0_2.length c0_2)] 27 (0, 0))) ∧ Aside0 (Below w.heap.size w w'))
 case atStart => exact ⟨(0), rfs, H', ⟨Nat.le_refl _⟩, ⟨bkw⟩, ⟨blw⟩⟩
 case round =>
  clear H'
  (try clear c2); (try clear p2)
  obtain ⟨x3_1, rfl, HA, HK1, BK391, HB⟩ := hrel
  cases gk with
  | zero => exact absurd HA.out (by simp [spec_l3Form.l0])
  | succ k1 =>
   have H := HA.out
   clear HA
   simp only [spec_l3Form.l0] at H
   by_cases c3 : x3_1 < (l0_2.length : Int)
   ·rw [if_pos c3] at H
    have c3b0 : decide (x3_1 < (l0_2.length : Int)) = true := decide_eq_true c3
    clear c3
    by_cases c4 : 0 ≤ x3_1
    case neg =>
     rw [if_neg c4] at H
     exact absurd H (by simp)
    rw [if_pos c4] at H
    have c4b0 : decide (0 ≤ x3_1) = true := decide_eq_true c4
    clear c4
    replace H := Option.bind_eq_some_iff.mp H
    obtain ⟨t393, A50, H⟩ := H
    replace H : (if t393 = true then (spec_l3Form.l0 k1 (wrap64 (x3_1 + 1)) a0_0 l0_1 l0_2) else (some false)) = some r := H
    have A5 := Aside0.mk A50
    clear A50
    have HC6 := Aside0.mk H
    clear H
    obtain ⟨hcz7_0, hcz7_1, hcz7_2⟩ := cls3 BK391.out
    obtain ⟨hfz7_0, hfz7_1, hfz7_2⟩ := frz3 BK391.out
    have p392 : 0 ≤ (x3_1 : Int) := of_decide_eq_true asw
    have q392 : x3_1 < (l0_2.length : Int) := of_decide_eq_true asw
    obtain ⟨ad392, A392_1, c392_1, A392_2, c392_2, e392, hx392_0, hx392_1, hx392_2, hl392_1, hi392_1, hl392_2, hi392_2⟩ := at_T27 HR0_2.out x3_1 p392 q392
    cases e392
    replace hx392_0 := upw HB.out hx392_0
    replace hx392_1 := upw HB.out hx392_1
    replace hx392_2 := upw HB.out hx392_2
    have HR392_1 := Aside0.mk hi392_1
    have HC392_1 := Aside0.mk hl392_1
    clear hi392_1 hl392_1
    have HR392_2 := Aside0.mk hi392_2
    have HC392_2 := Aside0.mk hl392_2
    clear hi392_2 hl392_2
    replace p392 := eq_true p392
    replace q392 := eq_true q392
    go_upto_if 18 with (first | ((with_reducible refine gate_callee (f := 27) rfl ?_); refine goesL_ (some 17) rfl rfl Try.func27 kr rfl #[.agg #[.int .i64 ((rd_T27 l0_2 x3_1).f0), .slice A392_1 ((rd_T27 l0_2 x3_1).f1).length c392_1, .slice A392_2 ((rd_T27 l0_2 x3_1).f2).length c392_2]] rfl mpw ?_; (with_reducible refine (ih k1 (by have := HK1.out; omega) ((rd_T27 l0_2 x3_1).f0) _ _ ((rd_T27 l0_2 x3_1).f1) _ _ ((rd_T27 l0_2 x3_1).f2) t393 _ ?side1 ?side2 ?side3 ?side4 A5.out).mono ?_); (case side1 => have X_ := HR392_1; exact cbl); (case side2 => exact HC392_1.out); (case side3 => have X_ := HR392_2; exact cbl); (case side4 => exact HC392_2.out); rintro e w8 ⟨rfl, hb⟩; refine ⟨_, rfl, ?_⟩; have n0_ := Aside0.mk (blk_below (g := gb391) (o := .cells #[.int .i64 a0_0, .slice A0_1 l0_1.length c0_1, .slice (some ad392) l0_2.length c0_2] 27 (0, 0)) bkw hb); have n1_ := Aside0.mk (below_step blw hb); clear BK391; clear HB; revert n0_ n1_; intro BK391 HB; (try clear hb); (try clear hb2); (try clear hk); (try clear hi)))
    have H := HC6.out
    clear HC6
    by_cases c9 : t393 = true
    case neg =>
     replace c9 := Bool.eq_false_iff.mpr c9
     subst c9
     have H1 : (some false) = some r := by rw [if_neg (show ¬ (false = true) by decide)] at H; exact H
     clear H
     have H := H1
     clear H1
     obtain rfl := Option.some.inj H
     go_wp2
     go_ret
     exact ⟨rfw, blw⟩
    subst c9
    have H1 : (spec_l3Form.l0 k1 (wrap64 (x3_1 + 1)) a0_0 l0_1 l0_2) = some r := by rw [if_pos rfl] at H; exact H
    clear H
    have H := H1
    clear H1
    have H' := Aside0.mk H
    clear H
    go_wp2
    go_roundg k1
    case measure => have := HK1.out; omega
    case rel => exact ⟨(wrap64 (x3_1 + 1)), rfs, H', ⟨by have := HK1.out; omega⟩, ⟨bkw⟩, ⟨blw⟩⟩
   rw [if_neg c3] at H
   have c3b0 : decide (x3_1 < (l0_2.length : Int)) = false := decide_eq_false c3
   clear c3
   by_cases c10 : a0_0 = 3
   ·rw [if_pos c10] at H
    have c10b0 : (a0_0 == 3) = true := beq_iff_eq.mpr c10
    have c10b1 : (a0_0 != 3) = false := bne_eq_false_iff_eq.mpr c10
    clear c10
    by_cases c11 : (l0_2.length : Int) = (l0_1.length : Int)
    case neg =>
     rw [if_neg c11] at H
     have c11b0 : ((l0_2.length : Int) == (l0_1.length : Int)) = false := beq_eq_false_iff_ne.mpr c11
     have c11b1 : ((l0_2.length : Int) != (l0_1.length : Int)) = true := bne_iff_ne.mpr c11
     have c11b2 : (l0_2.length == l0_1.length) = false := by first | simpa using c11 | (simp at c11 ⊢; omega)
     obtain rfl := Option.some.inj H
     obtain ⟨hcz18_0, hcz18_1, hcz18_2⟩ := cls3 BK391.out
     obtain ⟨hfz18_0, hfz18_1, hfz18_2⟩ := frz3 BK391.out
     go_wp2
     go_ret
     exact ⟨rfw, blw⟩
    rw [if_pos c11] at H
    have c11b0 : ((l0_2.length : Int) == (l0_1.length : Int)) = true := beq_iff_eq.mpr c11
    have c11b1 : ((l0_2.length : Int) != (l0_1.length : Int)) = false := bne_eq_false_iff_eq.mpr c11
    have c11b2 : (l0_2.length == l0_1.length) = true := by first | simpa using c11 | (simp at c11 ⊢; omega)
    clear c11
    replace H := Option.bind_eq_some_iff.mp H
    obtain ⟨t394, A120, H⟩ := H
    replace H : (if t394 = true then ((spec_l3Has.f k1 a0_0 l0_1 l0_2 5).bind fun t395 => (some (!t395))) else (some false)) = some r := H
    have A12 := Aside0.mk A120
    clear A120
    by_cases c13 : t394 = true
    case neg =>
     replace c13 := Bool.eq_false_iff.mpr c13
     subst c13
     have H1 : (some false) = some r := by rw [if_neg (show ¬ (false = true) by decide)] at H; exact H
     clear H
     have H := H1
     clear H1
     obtain rfl := Option.some.inj H
     obtain ⟨hcz17_0, hcz17_1, hcz17_2⟩ := cls3 BK391.out
     obtain ⟨hfz17_0, hfz17_1, hfz17_2⟩ := frz3 BK391.out
     go_wp2_with (first | (go_at_call 50; (with_reducible refine (spec_l3Labels.calls k1 _ _ l0_1 false _ ?side1 ?side2 A12.out).mono ?_); (case side1 => have X_ := HR0_1; exact cbl); (case side2 => exact HC0_1.out); rintro e w' ⟨rfl, ⟨nd, rfl⟩⟩))
     go_ret
     exact ⟨rfw, blw⟩
    subst c13
    have H1 : ((spec_l3Has.f k1 a0_0 l0_1 l0_2 5).bind fun t395 => (some (!t395))) = some r := by rw [if_pos rfl] at H; exact H
    clear H
    have H := H1
    clear H1
    replace H := Option.bind_eq_some_iff.mp H
    obtain ⟨t395, A140, H⟩ := H
    replace H : (some (!t395)) = some r := H
    have A14 := Aside0.mk A140
    clear A140
    obtain rfl := Option.some.inj H
    obtain ⟨hcz15_0, hcz15_1, hcz15_2⟩ := cls3 BK391.out
    obtain ⟨hfz15_0, hfz15_1, hfz15_2⟩ := frz3 BK391.out
    go_wp2_with (first | (go_at_call 50; (with_reducible refine (spec_l3Labels.calls k1 _ _ l0_1 true _ ?side1 ?side2 A12.out).mono ?_); (case side1 => have X_ := HR0_1; exact cbl); (case side2 => exact HC0_1.out); rintro e w' ⟨rfl, ⟨nd, rfl⟩⟩) | (go_at_call 28; (with_reducible refine (spec_l3Has.calls k1 a0_0 _ _ l0_1 _ _ l0_2 5 t395 _ ?side1 ?side2 ?side3 ?side4 A14.out).mono ?_); (case side1 => repeat (first | exact (Kd.C_below HR0_1.out blw) | (with_reducible refine Kd.C_alloc ?_ _) | (with_reducible refine Kd.C_drewN ?_ _) | (with_reducible refine Kd.C_drew ?_))); (case side2 => exact HC0_1.out); (case side3 => repeat (first | exact (Kd.C_below HR0_2.out blw) | (with_reducible refine Kd.C_alloc ?_ _) | (with_reducible refine Kd.C_drewN ?_ _) | (with_reducible refine Kd.C_drew ?_))); (case side4 => exact HC0_2.out); rintro e w16 ⟨rfl, hb⟩; have n0_ := Aside0.mk (blk_below (g := gb391) (o := .cells #[.int .i64 a0_0, .slice A0_1 l0_1.length c0_1, .slice A0_2 l0_2.length c0_2] 27 (0, 0)) bkw hb); have n1_ := Aside0.mk (below_step blw hb); clear BK391; clear HB; revert n0_ n1_; intro BK391 HB; (try clear hb); (try clear hb2); (try clear hk); (try clear hi)))
    go_ret
    exact ⟨rfw, blw⟩
   rw [if_neg c10] at H
   have c10b0 : (a0_0 == 3) = false := beq_eq_false_iff_ne.mpr c10
   have c10b1 : (a0_0 != 3) = true := bne_iff_ne.mpr c10
   have HC19 := Aside0.mk H
   clear H
   obtain ⟨hcz20_0, hcz20_1, hcz20_2⟩ := cls3 BK391.out
   obtain ⟨hfz20_0, hfz20_1, hfz20_2⟩ := frz3 BK391.out
   go_upto_region 8 with (fail)
   go_cut [54] (fun v54 wc => ∃ (kq : Nat) (x54_18 : Bool), v54 = .bool x54_18 ∧ Aside0 (spec_l3Form.j1 kq x54_18 a0_0 l0_1 l0_2 = some r) ∧ Aside0 (kq ≤ k1) ∧ Aside0 (wc.heap[gb391]? = some (.cells #[.int .i64 a0_0, (.slice A0_1 l0_1.length c0_1), (.slice A0_2 l0_2.length c0_2)] 27 (0, 0))) ∧ Aside0 (Below w.heap.size w wc))
   case first =>
    have H := HC19.out
    clear HC19
    by_cases c21 : a0_0 = 4
    case neg =>
     rw [if_neg c21] at H
     have c21b0 : (a0_0 == 4) = false := beq_eq_false_iff_ne.mpr c21
     have c21b1 : (a0_0 != 4) = true := bne_iff_ne.mpr c21
     (first | rw [c21b0] | (simp only [i64_w, i32_w]; rw [c21b0]) | (rw [c21b1]; (try simp only [Bool.not_true, Bool.not_false])) | skip)
     have H' := Aside0.mk H
     clear H
     obtain ⟨hcz28_0, hcz28_1, hcz28_2⟩ := cls3 BK391.out
     obtain ⟨hfz28_0, hfz28_1, hfz28_2⟩ := frz3 BK391.out
     go_wp2
     go_meet
     case rel => exact ⟨_, (false), rfs, H', ⟨by have := HK1.out; first | omega | exact Nat.le_refl _⟩, ⟨bkw⟩, ⟨blw⟩⟩
    rw [if_pos c21] at H
    have c21b0 : (a0_0 == 4) = true := beq_iff_eq.mpr c21
    have c21b1 : (a0_0 != 4) = false := bne_eq_false_iff_eq.mpr c21
    clear c21
    (first | rw [c21b0] | (simp only [i64_w, i32_w]; rw [c21b0]) | (rw [c21b1]; (try simp only [Bool.not_true, Bool.not_false])) | skip)
    by_cases c22 : (l0_2.length : Int) = 1
    case neg =>
     rw [if_neg c22] at H
     have c22b0 : ((l0_2.length : Int) == 1) = false := beq_eq_false_iff_ne.mpr c22
     have c22b1 : ((l0_2.length : Int) != 1) = true := bne_iff_ne.mpr c22
     have H' := Aside0.mk H
     clear H
     obtain ⟨hcz27_0, hcz27_1, hcz27_2⟩ := cls3 BK391.out
     obtain ⟨hfz27_0, hfz27_1, hfz27_2⟩ := frz3 BK391.out
     go_wp2
     go_meet
     case rel => exact ⟨_, (false), rfs, H', ⟨by have := HK1.out; first | omega | exact Nat.le_refl _⟩, ⟨bkw⟩, ⟨blw⟩⟩
    rw [if_pos c22] at H
    have c22b0 : ((l0_2.length : Int) == 1) = true := beq_iff_eq.mpr c22
    have c22b1 : ((l0_2.length : Int) != 1) = false := bne_eq_false_iff_eq.mpr c22
    clear c22
    by_cases c23 : 0 < (l0_2.length : Int)
    case neg =>
     rw [if_neg c23] at H
     exact absurd H (by simp)
    rw [if_pos c23] at H
    have c23b0 : decide (0 < (l0_2.length : Int)) = true := decide_eq_true c23
    have c23b1 : decide (0 < l0_2.length) = true := decide_eq_true (by omega)
    clear c23
    replace H := Option.bind_eq_some_iff.mp H
    obtain ⟨t397, A240, H⟩ := H
    replace H : (spec_l3Form.j1 k1 t397 a0_0 l0_1 l0_2) = some r := H
    have A24 := Aside0.mk A240
    clear A240
    have H' := Aside0.mk H
    clear H
    obtain ⟨hcz25_0, hcz25_1, hcz25_2⟩ := cls3 BK391.out
    obtain ⟨hfz25_0, hfz25_1, hfz25_2⟩ := frz3 BK391.out
    have p396 : 0 ≤ (0 : Int) := (by omega)
    have q396 : 0 < (l0_2.length : Int) := of_decide_eq_true asw
    obtain ⟨ad396, A396_1, c396_1, A396_2, c396_2, e396, hx396_0, hx396_1, hx396_2, hl396_1, hi396_1, hl396_2, hi396_2⟩ := at_T27 HR0_2.out 0 p396 q396
    cases e396
    have qi396 : (0 < l0_2.length) = True := eq_true (by omega)
    (try rw [show ((0 : Int)).toNat = 0 from rfl] at hx396_0)
    (try rw [show 0 * 3 = 0 from rfl] at hx396_0)
    (try rw [Addr.add_zero'] at hx396_0)
    (try rw [show ((0 : Int)).toNat = 0 from rfl] at hx396_1)
    (try rw [show 0 * 3 = 0 from rfl] at hx396_1)
    (try rw [Addr.add_zero'] at hx396_1)
    (try rw [show ((0 : Int)).toNat = 0 from rfl] at hx396_2)
    (try rw [show 0 * 3 = 0 from rfl] at hx396_2)
    (try rw [Addr.add_zero'] at hx396_2)
    replace hx396_0 := upw HB.out hx396_0
    replace hx396_1 := upw HB.out hx396_1
    replace hx396_2 := upw HB.out hx396_2
    have HR396_1 := Aside0.mk hi396_1
    have HC396_1 := Aside0.mk hl396_1
    clear hi396_1 hl396_1
    have HR396_2 := Aside0.mk hi396_2
    have HC396_2 := Aside0.mk hl396_2
    clear hi396_2 hl396_2
    replace p396 := eq_true p396
    replace q396 := eq_true q396
    go_wp2_with (first | (go_at_call 28; (with_reducible refine (spec_l3Has.calls k1 ((rd_T27 l0_2 0).f0) _ _ ((rd_T27 l0_2 0).f1) _ _ ((rd_T27 l0_2 0).f2) 5 t397 _ ?side1 ?side2 ?side3 ?side4 A24.out).mono ?_); (case side1 => have X_ := HR396_1; exact cbl); (case side2 => exact HC396_1.out); (case side3 => have X_ := HR396_2; exact cbl); (case side4 => exact HC396_2.out); rintro e w26 ⟨rfl, hb⟩; have n0_ := Aside0.mk (blk_below (g := gb391) (o := .cells #[.int .i64 a0_0, .slice A0_1 l0_1.length c0_1, .slice (some ad396) l0_2.length c0_2] 27 (0, 0)) bkw hb); have n1_ := Aside0.mk (below_step blw hb); clear BK391; clear HB; revert n0_ n1_; intro BK391 HB; (try clear hb); (try clear hb2); (try clear hk); (try clear hi)))
    go_meet
    case rel => exact ⟨_, (t397), rfs, H', ⟨by have := HK1.out; first | omega | exact Nat.le_refl _⟩, ⟨bkw⟩, ⟨blw⟩⟩
   case rest =>
    clear HC19
    (try clear c1); (try clear c2); (try clear p2); (try clear c3); (try clear c3b0); (try clear p3); (try clear q3); (try clear hx3); (try clear qi3); (try clear c4); (try clear c4b0); (try clear p6); (try clear c9); (try clear c10); (try clear c10b0); (try clear c10b1); (try clear c11); (try clear c11b0); (try clear c11b1); (try clear c11b2); (try clear c13); (try clear c21); (try clear c21b0); (try clear c21b1); (try clear c22); (try clear c22b0); (try clear c22b1); (try clear c23); (try clear c23b0); (try clear c23b1); (try clear c27); (try clear hcz15_0); (try clear hcz15_1); (try clear hcz15_2); (try clear hcz17_0); (try clear hcz17_1); (try clear hcz17_2); (try clear hcz18_0); (try clear hcz18_1); (try clear hcz18_2); (try clear hcz20_0); (try clear hcz20_1); (try clear hcz20_2); (try clear hcz25_0); (try clear hcz25_1); (try clear hcz25_2); (try clear hcz27_0); (try clear hcz27_1); (try clear hcz27_2); (try clear hcz28_0); (try clear hcz28_1); (try clear hcz28_2); (try clear hcz7_0); (try clear hcz7_1); (try clear hcz7_2); (try clear hfz15_0); (try clear hfz15_1); (try clear hfz15_2); (try clear hfz17_0); (try clear hfz17_1); (try clear hfz17_2); (try clear hfz18_0); (try clear hfz18_1); (try clear hfz18_2); (try clear hfz20_0); (try clear hfz20_1); (try clear hfz20_2); (try clear hfz25_0); (try clear hfz25_1); (try clear hfz25_2); (try clear hfz27_0); (try clear hfz27_1); (try clear hfz27_2); (try clear hfz28_0); (try clear hfz28_1); (try clear hfz28_2); (try clear hfz7_0); (try clear hfz7_1); (try clear hfz7_2); (try clear hx392_0); (try clear hx392_1); (try clear hx392_2); (try clear hx396_0); (try clear hx396_1); (try clear hx396_2); (try clear p2); (try clear p392); (try clear p396); (try clear q392); (try clear q396)
    obtain ⟨kq, x54_18, rfl, HA, HJ18, BK391, HB⟩ := hcut
    cases kq with
    | zero => exact absurd HA.out (by simp [spec_l3Form.j1])
    | succ kj18 =>
     have H := HA.out
     clear HA
     simp only [spec_l3Form.j1] at H
     by_cases c29 : x54_18 = true
     ·subst c29
      have H1 : (some false) = some r := by rw [if_pos rfl] at H; exact H
      clear H
      have H := H1
      clear H1
      obtain rfl := Option.some.inj H
      go_wp2
      go_ret
      exact ⟨rfw, blw⟩
     replace c29 := Bool.eq_false_iff.mpr c29
     subst c29
     have H1 : (if a0_0 = 1 then (spec_l3Form.j2 kj18 (-1) a0_0 (a0_0 == 1) a0_0 l0_1 l0_2) else (spec_l3Form.j2 kj18 (-1) a0_0 (a0_0 == 2) a0_0 l0_1 l0_2)) = some r := by rw [if_neg (show ¬ (false = true) by decide)] at H; exact H
     clear H
     have H := H1
     clear H1
     have HC30 := Aside0.mk H
     clear H
     obtain ⟨hcz31_0, hcz31_1, hcz31_2⟩ := cls3 BK391.out
     obtain ⟨hfz31_0, hfz31_1, hfz31_2⟩ := frz3 BK391.out
     go_upto_if 57 with (fail)
     go_cut [57] (fun v57 wc => ∃ (kq : Nat) (x57_29 : Bool), v57 = .bool x57_29 ∧ Aside0 (spec_l3Form.j2 kq (-1) a0_0 x57_29 a0_0 l0_1 l0_2 = some r) ∧ Aside0 (kq ≤ kj18) ∧ Aside0 (wc.heap[gb391]? = some (.cells #[.int .i64 a0_0, (.slice A0_1 l0_1.length c0_1), (.slice A0_2 l0_2.length c0_2)] 27 (0, 0))) ∧ Aside0 (Below w.heap.size w wc))
     case first =>
      have H := HC30.out
      clear HC30
      by_cases c32 : a0_0 = 1
      case neg =>
       rw [if_neg c32] at H
       have c32b0 : (a0_0 == 1) = false := beq_eq_false_iff_ne.mpr c32
       have c32b1 : (a0_0 != 1) = true := bne_iff_ne.mpr c32
       (first | rw [c32b0] | (simp only [i64_w, i32_w]; rw [c32b0]) | (rw [c32b1]; (try simp only [Bool.not_true, Bool.not_false])) | skip)
       have H' := Aside0.mk H
       clear H
       go_wp2
       go_meet
       case rel => exact ⟨_, ((a0_0 == 2)), rfs, H', ⟨by have := HK1.out; have := HJ18.out; first | omega | exact Nat.le_refl _⟩, ⟨bkw⟩, ⟨blw⟩⟩
      rw [if_pos c32] at H
      have c32b0 : (a0_0 == 1) = true := beq_iff_eq.mpr c32
      have c32b1 : (a0_0 != 1) = false := bne_eq_false_iff_eq.mpr c32
      clear c32
      (first | rw [c32b0] | (simp only [i64_w, i32_w]; rw [c32b0]) | (rw [c32b1]; (try simp only [Bool.not_true, Bool.not_false])) | skip)
      have H' := Aside0.mk H
      clear H
      go_wp2
      go_meet
      case rel => exact ⟨_, ((a0_0 == 1)), rfs, H', ⟨by have := HK1.out; have := HJ18.out; first | omega | exact Nat.le_refl _⟩, ⟨bkw⟩, ⟨blw⟩⟩
     case rest =>
      clear HC30
      (try clear c1); (try clear c2); (try clear p2); (try clear c3); (try clear c3b0); (try clear p3); (try clear q3); (try clear hx3); (try clear qi3); (try clear c4); (try clear c4b0); (try clear p6); (try clear c9); (try clear c10); (try clear c10b0); (try clear c10b1); (try clear c11); (try clear c11b0); (try clear c11b1); (try clear c11b2); (try clear c13); (try clear c21); (try clear c21b0); (try clear c21b1); (try clear c22); (try clear c22b0); (try clear c22b1); (try clear c23); (try clear c23b0); (try clear c23b1); (try clear c27); (try clear c29); (try clear c32); (try clear c32b0); (try clear c32b1); (try clear hcz15_0); (try clear hcz15_1); (try clear hcz15_2); (try clear hcz17_0); (try clear hcz17_1); (try clear hcz17_2); (try clear hcz18_0); (try clear hcz18_1); (try clear hcz18_2); (try clear hcz20_0); (try clear hcz20_1); (try clear hcz20_2); (try clear hcz25_0); (try clear hcz25_1); (try clear hcz25_2); (try clear hcz27_0); (try clear hcz27_1); (try clear hcz27_2); (try clear hcz28_0); (try clear hcz28_1); (try clear hcz28_2); (try clear hcz31_0); (try clear hcz31_1); (try clear hcz31_2); (try clear hcz7_0); (try clear hcz7_1); (try clear hcz7_2); (try clear hfz15_0); (try clear hfz15_1); (try clear hfz15_2); (try clear hfz17_0); (try clear hfz17_1); (try clear hfz17_2); (try clear hfz18_0); (try clear hfz18_1); (try clear hfz18_2); (try clear hfz20_0); (try clear hfz20_1); (try clear hfz20_2); (try clear hfz25_0); (try clear hfz25_1); (try clear hfz25_2); (try clear hfz27_0); (try clear hfz27_1); (try clear hfz27_2); (try clear hfz28_0); (try clear hfz28_1); (try clear hfz28_2); (try clear hfz31_0); (try clear hfz31_1); (try clear hfz31_2); (try clear hfz7_0); (try clear hfz7_1); (try clear hfz7_2); (try clear hx392_0); (try clear hx392_1); (try clear hx392_2); (try clear hx396_0); (try clear hx396_1); (try clear hx396_2); (try clear p2); (try clear p3); (try clear p392); (try clear p396); (try clear p6); (try clear q3); (try clear q392); (try clear q396)
      obtain ⟨kq, x57_29, rfl, HA, HJ29, BK391, HB⟩ := hcut
      cases kq with
      | zero => exact absurd HA.out (by simp [spec_l3Form.j2])
      | succ kj29 =>
       have H := HA.out
       clear HA
       simp only [spec_l3Form.j2] at H
       by_cases c33 : x57_29 = true
       ·subst c33
        have H1 : (if (l0_1.length : Int) = 0 then (some ((l0_2.length : Int) == 0)) else (some false)) = some r := by rw [if_pos rfl] at H; exact H
        clear H
        have H := H1
        clear H1
        by_cases c34 : (l0_1.length : Int) = 0
        ·rw [if_pos c34] at H
         have c34b0 : ((l0_1.length : Int) == 0) = true := beq_iff_eq.mpr c34
         have c34b1 : ((l0_1.length : Int) != 0) = false := bne_eq_false_iff_eq.mpr c34
         clear c34
         obtain rfl := Option.some.inj H
         obtain ⟨hcz35_0, hcz35_1, hcz35_2⟩ := cls3 BK391.out
         obtain ⟨hfz35_0, hfz35_1, hfz35_2⟩ := frz3 BK391.out
         go_wp2
         go_ret
         exact ⟨rfw, blw⟩
        rw [if_neg c34] at H
        have c34b0 : ((l0_1.length : Int) == 0) = false := beq_eq_false_iff_ne.mpr c34
        have c34b1 : ((l0_1.length : Int) != 0) = true := bne_iff_ne.mpr c34
        have c34b2 : ¬ (l0_1 = []) := fun h_ => c34 (by rw [h_]; rfl)
        obtain rfl := Option.some.inj H
        obtain ⟨hcz36_0, hcz36_1, hcz36_2⟩ := cls3 BK391.out
        obtain ⟨hfz36_0, hfz36_1, hfz36_2⟩ := frz3 BK391.out
        go_wp2
        go_ret
        exact ⟨rfw, blw⟩
       replace c33 := Bool.eq_false_iff.mpr c33
       subst c33
       have H1 : (if a0_0 = 4 then (if (l0_1.length : Int) = 0 then (some ((l0_2.length : Int) == 1)) else (some false)) else (if a0_0 = 5 then (if (l0_1.length : Int) = 0 then (some ((l0_2.length : Int) == 2)) else (some false)) else (if (l0_1.length : Int) = 0 then (some ((l0_2.length : Int) == (-1))) else (some false)))) = some r := by rw [if_neg (show ¬ (false = true) by decide)] at H; exact H
       clear H
       have H := H1
       clear H1
       by_cases c37 : a0_0 = 4
       ·rw [if_pos c37] at H
        have c37b0 : (a0_0 == 4) = true := beq_iff_eq.mpr c37
        have c37b1 : (a0_0 != 4) = false := bne_eq_false_iff_eq.mpr c37
        clear c37
        by_cases c38 : (l0_1.length : Int) = 0
        ·rw [if_pos c38] at H
         have c38b0 : ((l0_1.length : Int) == 0) = true := beq_iff_eq.mpr c38
         have c38b1 : ((l0_1.length : Int) != 0) = false := bne_eq_false_iff_eq.mpr c38
         clear c38
         obtain rfl := Option.some.inj H
         obtain ⟨hcz39_0, hcz39_1, hcz39_2⟩ := cls3 BK391.out
         obtain ⟨hfz39_0, hfz39_1, hfz39_2⟩ := frz3 BK391.out
         go_wp2
         go_ret
         exact ⟨rfw, blw⟩
        rw [if_neg c38] at H
        have c38b0 : ((l0_1.length : Int) == 0) = false := beq_eq_false_iff_ne.mpr c38
        have c38b1 : ((l0_1.length : Int) != 0) = true := bne_iff_ne.mpr c38
        have c38b2 : ¬ (l0_1 = []) := fun h_ => c38 (by rw [h_]; rfl)
        obtain rfl := Option.some.inj H
        obtain ⟨hcz40_0, hcz40_1, hcz40_2⟩ := cls3 BK391.out
        obtain ⟨hfz40_0, hfz40_1, hfz40_2⟩ := frz3 BK391.out
        go_wp2
        go_ret
        exact ⟨rfw, blw⟩
       rw [if_neg c37] at H
       have c37b0 : (a0_0 == 4) = false := beq_eq_false_iff_ne.mpr c37
       have c37b1 : (a0_0 != 4) = true := bne_iff_ne.mpr c37
       by_cases c41 : a0_0 = 5
       case neg =>
        rw [if_neg c41] at H
        have c41b0 : (a0_0 == 5) = false := beq_eq_false_iff_ne.mpr c41
        have c41b1 : (a0_0 != 5) = true := bne_iff_ne.mpr c41
        by_cases c45 : (l0_1.length : Int) = 0
        ·rw [if_pos c45] at H
         have c45b0 : ((l0_1.length : Int) == 0) = true := beq_iff_eq.mpr c45
         have c45b1 : ((l0_1.length : Int) != 0) = false := bne_eq_false_iff_eq.mpr c45
         clear c45
         obtain rfl := Option.some.inj H
         obtain ⟨hcz46_0, hcz46_1, hcz46_2⟩ := cls3 BK391.out
         obtain ⟨hfz46_0, hfz46_1, hfz46_2⟩ := frz3 BK391.out
         go_wp2
         go_ret
         exact ⟨rfw, blw⟩
        rw [if_neg c45] at H
        have c45b0 : ((l0_1.length : Int) == 0) = false := beq_eq_false_iff_ne.mpr c45
        have c45b1 : ((l0_1.length : Int) != 0) = true := bne_iff_ne.mpr c45
        have c45b2 : ¬ (l0_1 = []) := fun h_ => c45 (by rw [h_]; rfl)
        obtain rfl := Option.some.inj H
        obtain ⟨hcz47_0, hcz47_1, hcz47_2⟩ := cls3 BK391.out
        obtain ⟨hfz47_0, hfz47_1, hfz47_2⟩ := frz3 BK391.out
        go_wp2
        go_ret
        exact ⟨rfw, blw⟩
       rw [if_pos c41] at H
       have c41b0 : (a0_0 == 5) = true := beq_iff_eq.mpr c41
       have c41b1 : (a0_0 != 5) = false := bne_eq_false_iff_eq.mpr c41
       clear c41
       by_cases c42 : (l0_1.length : Int) = 0
       ·rw [if_pos c42] at H
        have c42b0 : ((l0_1.length : Int) == 0) = true := beq_iff_eq.mpr c42
        have c42b1 : ((l0_1.length : Int) != 0) = false := bne_eq_false_iff_eq.mpr c42
        clear c42
        obtain rfl := Option.some.inj H
        obtain ⟨hcz43_0, hcz43_1, hcz43_2⟩ := cls3 BK391.out
        obtain ⟨hfz43_0, hfz43_1, hfz43_2⟩ := frz3 BK391.out
        go_wp2
        go_ret
        exact ⟨rfw, blw⟩
       rw [if_neg c42] at H
       have c42b0 : ((l0_1.length : Int) == 0) = false := beq_eq_false_iff_ne.mpr c42
       have c42b1 : ((l0_1.length : Int) != 0) = true := bne_iff_ne.mpr c42
       have c42b2 : ¬ (l0_1 = []) := fun h_ => c42 (by rw [h_]; rfl)
       obtain rfl := Option.some.inj H
       obtain ⟨hcz44_0, hcz44_1, hcz44_2⟩ := cls3 BK391.out
       obtain ⟨hfz44_0, hfz44_1, hfz44_2⟩ := frz3 BK391.out
       go_wp2
       go_ret
       exact ⟨rfw, blw⟩

end Go.Proofs.Ytaakdfbfgabdbaa.Pt
end
