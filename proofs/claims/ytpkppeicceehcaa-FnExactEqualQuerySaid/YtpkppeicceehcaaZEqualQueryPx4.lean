/- Printed by a program of this session: what functions of the translation come to, each contract as it stands. No condition. -/
import Derived.Test.YtpkppeicceehcaaZEqualQuerySh
import Derived.Test.YtpkppeicceehcaaZEqualQueryPx0
import Derived.Test.YtpkppeicceehcaaZEqualQueryPx2M
namespace Go.Proofs.Ytpkppeicceehcaa.Px
set_option maxHeartbeats 8000000
set_option maxRecDepth 100000
open Go.RowKit Go.Proofs.Ytpkppeicceehcaa.Ext Go.Proofs.YtpkppeicceehcaaW.PrintWords Go.Proofs.YtpkppeicceehcaaW.PrintLast Go.Proofs.YtpkppeicceehcaaW.PrintMore
attribute [local go_sem] max2_int min2_int max_two min_two max_three min_three max_four min_four   -- for this text's walks alone
set_option linter.unusedVariables false
set_option linter.unusedSimpArgs false

mutual
def laws_szQuery.f : Nat → List (S73) → Int → Option (Int)
 | 0, _, _ => none
 | k + 1, l0_0, a1 => (laws_szCompS.f k l0_0 a1).bind fun t117 => (if t117 < 0 then (some (-1)) else (some t117))
def laws_szCompS.l0 : Nat → List (S73) → Int → Int → Option (Int)
 | 0, _, _, _ => none
 | k + 1, x0, x1, x5 => if x5 < (x0.length : Int) then (if 0 ≤ x5 then ((laws_szComp.f k ((rd_T73 x0 x5).f0) ((rd_T73 x0 x5).f1.f0) ((rd_T73 x0 x5).f1.f1) ((rd_T73 x0 x5).f1.f2) ((rd_T73 x0 x5).f1.f3.f0) ((rd_T73 x0 x5).f1.f3.f1) ((rd_T73 x0 x5).f1.f3.f2) ((rd_T73 x0 x5).f1.f4) ((rd_T73 x0 x5).f1.f5) ((rd_T73 x0 x5).f2.f0) ((rd_T73 x0 x5).f2.f1.f0) ((rd_T73 x0 x5).f2.f1.f1) ((rd_T73 x0 x5).f2.f1.f2) ((rd_T73 x0 x5).f2.f1.f3.f0) ((rd_T73 x0 x5).f2.f1.f3.f1) ((rd_T73 x0 x5).f2.f1.f3.f2) ((rd_T73 x0 x5).f2.f1.f4) ((rd_T73 x0 x5).f2.f1.f5) ((rd_T73 x0 x5).f2.f2) ((rd_T73 x0 x5).f2.f3) ((rd_T73 x0 x5).f2.f4.f0) x1).bind fun t119 => (if t119 < 0 then (some (-1)) else (laws_szCompS.l0 k x0 t119 (wrap64 (x5 + 1))))) else (none)) else (some x1)
def laws_szCompS.f : Nat → List (S73) → Int → Option (Int)
 | 0, _, _ => none
 | k + 1, l0, a1 => if (wrap64 (a1 - (l0.length : Int))) < 0 then (some (-1)) else (laws_szCompS.l0 k l0 (wrap64 (a1 - (l0.length : Int))) 0)
def laws_szComp.f : Nat → List (S89) → Int → ByteArray → Int → Int → List ByteArray → List (S65) → List ByteArray → List (S68) → Int → Int → ByteArray → Int → Int → List ByteArray → List (S65) → List ByteArray → List (S68) → List ByteArray → List (S71) → List (S73) → Int → Option (Int)
 | 0, _, _, _, _, _, _, _, _, _, _, _, _, _, _, _, _, _, _, _, _, _, _ => none
 | k + 1, l0_0, a0_1, a0_2, a0_3, a0_4, l0_5, l0_6, l0_7, l0_8, a0_9, a0_10, a0_11, a0_12, a0_13, l0_14, l0_15, l0_16, l0_17, l0_18, l0_19, l0_20, a1 => (laws_szGenS.f k l0_0 a1).bind fun t121 => (if t121 < 0 then (some (-1)) else ((laws_szTerm.f k a0_1 a0_2 a0_3 a0_4 l0_5 l0_6 l0_7 l0_8 t121).bind fun t122 => (if t122 < 0 then (some (-1)) else ((laws_szHead.f k a0_9 a0_10 a0_11 a0_12 a0_13 l0_14 l0_15 l0_16 l0_17 l0_18 l0_19 l0_20 t122).bind fun t123 => (if t123 < 0 then (some (-1)) else (some t123))))))
def laws_szHead.f : Nat → Int → Int → ByteArray → Int → Int → List ByteArray → List (S65) → List ByteArray → List (S68) → List ByteArray → List (S71) → List (S73) → Int → Option (Int)
 | 0, _, _, _, _, _, _, _, _, _, _, _, _, _ => none
 | k + 1, a0_0, a0_1, a0_2, a0_3, a0_4, l0_5, l0_6, l0_7, l0_8, l0_9, l0_10, l0_11, a1 => (laws_szTerm.f k a0_1 a0_2 a0_3 a0_4 l0_5 l0_6 l0_7 l0_8 a1).bind fun t125 => (if t125 < 0 then (some (-1)) else ((laws_szStringS.f k l0_9 t125).bind fun t126 => (if t126 < 0 then (some (-1)) else ((laws_szHeadS.f k l0_10 t126).bind fun t127 => (if t127 < 0 then (some (-1)) else ((laws_szQuery.f k l0_11 t127).bind fun t128 => (if t128 < 0 then (some (-1)) else (some t128))))))))
def laws_szHeadS.l0 : Nat → List (S71) → Int → Int → Option (Int)
 | 0, _, _, _ => none
 | k + 1, x0, x1, x5 => if x5 < (x0.length : Int) then (if 0 ≤ x5 then ((laws_szHead.f k ((rd_T71 x0 x5).f0) ((rd_T71 x0 x5).f1.f0) ((rd_T71 x0 x5).f1.f1) ((rd_T71 x0 x5).f1.f2) ((rd_T71 x0 x5).f1.f3.f0) ((rd_T71 x0 x5).f1.f3.f1) ((rd_T71 x0 x5).f1.f3.f2) ((rd_T71 x0 x5).f1.f4) ((rd_T71 x0 x5).f1.f5) ((rd_T71 x0 x5).f2) ((rd_T71 x0 x5).f3) ((rd_T71 x0 x5).f4.f0) x1).bind fun t130 => (if t130 < 0 then (some (-1)) else (laws_szHeadS.l0 k x0 t130 (wrap64 (x5 + 1))))) else (none)) else (some x1)
def laws_szHeadS.f : Nat → List (S71) → Int → Option (Int)
 | 0, _, _ => none
 | k + 1, l0, a1 => if (wrap64 (a1 - (l0.length : Int))) < 0 then (some (-1)) else (laws_szHeadS.l0 k l0 (wrap64 (a1 - (l0.length : Int))) 0)
end
abbrev laws_szQuery.T (k : Nat) : Prop := ∀ (A0_0 : Option Addr) (c0_0 : Nat) (l0_0 : List (S73)) (a1 : Int) (r : Int) (w : World) (hr0_0 : Kd.C k73 w A0_0 l0_0.length l0_0) (hc0_0 : l0_0.length ≤ c0_0) (h : laws_szQuery.f k l0_0 a1 = some r),
  Calls Try.prog 6 #[.agg #[.slice A0_0 l0_0.length c0_0], .int .i64 a1] w fun e w' => e = .returned (.int .i64 r) ∧ Below w.heap.size w w'
abbrev laws_szCompS.T (k : Nat) : Prop := ∀ (A0 : Option Addr) (c0 : Nat) (l0 : List (S73)) (a1 : Int) (r : Int) (w : World) (hr0 : Kd.C k73 w A0 l0.length l0) (hc0 : l0.length ≤ c0) (h : laws_szCompS.f k l0 a1 = some r),
  Calls Try.prog 15 #[.slice A0 l0.length c0, .int .i64 a1] w fun e w' => e = .returned (.int .i64 r) ∧ Below w.heap.size w w'
abbrev laws_szComp.T (k : Nat) : Prop := ∀ (A0_0 : Option Addr) (c0_0 : Nat) (l0_0 : List (S89)) (a0_1 : Int) (a0_2 : ByteArray) (a0_3 : Int) (a0_4 : Int) (A0_5 : Option Addr) (c0_5 : Nat) (l0_5 : List ByteArray) (A0_6 : Option Addr) (c0_6 : Nat) (l0_6 : List (S65)) (A0_7 : Option Addr) (c0_7 : Nat) (l0_7 : List ByteArray) (A0_8 : Option Addr) (c0_8 : Nat) (l0_8 : List (S68)) (a0_9 : Int) (a0_10 : Int) (a0_11 : ByteArray) (a0_12 : Int) (a0_13 : Int) (A0_14 : Option Addr) (c0_14 : Nat) (l0_14 : List ByteArray) (A0_15 : Option Addr) (c0_15 : Nat) (l0_15 : List (S65)) (A0_16 : Option Addr) (c0_16 : Nat) (l0_16 : List ByteArray) (A0_17 : Option Addr) (c0_17 : Nat) (l0_17 : List (S68)) (A0_18 : Option Addr) (c0_18 : Nat) (l0_18 : List ByteArray) (A0_19 : Option Addr) (c0_19 : Nat) (l0_19 : List (S71)) (A0_20 : Option Addr) (c0_20 : Nat) (l0_20 : List (S73)) (a1 : Int) (r : Int) (w : World) (hr0_0 : Kd.C k89 w A0_0 l0_0.length l0_0) (hc0_0 : l0_0.length ≤ c0_0) (hr0_5 : Kd.C Kd.string w A0_5 l0_5.length l0_5) (hc0_5 : l0_5.length ≤ c0_5) (hr0_6 : Kd.C k65 w A0_6 l0_6.length l0_6) (hc0_6 : l0_6.length ≤ c0_6) (hr0_7 : Kd.C Kd.string w A0_7 l0_7.length l0_7) (hc0_7 : l0_7.length ≤ c0_7) (hr0_8 : Kd.C k68 w A0_8 l0_8.length l0_8) (hc0_8 : l0_8.length ≤ c0_8) (hr0_14 : Kd.C Kd.string w A0_14 l0_14.length l0_14) (hc0_14 : l0_14.length ≤ c0_14) (hr0_15 : Kd.C k65 w A0_15 l0_15.length l0_15) (hc0_15 : l0_15.length ≤ c0_15) (hr0_16 : Kd.C Kd.string w A0_16 l0_16.length l0_16) (hc0_16 : l0_16.length ≤ c0_16) (hr0_17 : Kd.C k68 w A0_17 l0_17.length l0_17) (hc0_17 : l0_17.length ≤ c0_17) (hr0_18 : Kd.C Kd.string w A0_18 l0_18.length l0_18) (hc0_18 : l0_18.length ≤ c0_18) (hr0_19 : Kd.C k71 w A0_19 l0_19.length l0_19) (hc0_19 : l0_19.length ≤ c0_19) (hr0_20 : Kd.C k73 w A0_20 l0_20.length l0_20) (hc0_20 : l0_20.length ≤ c0_20) (h : laws_szComp.f k l0_0 a0_1 a0_2 a0_3 a0_4 l0_5 l0_6 l0_7 l0_8 a0_9 a0_10 a0_11 a0_12 a0_13 l0_14 l0_15 l0_16 l0_17 l0_18 l0_19 l0_20 a1 = some r),
  Calls Try.prog 28 #[.agg #[.slice A0_0 l0_0.length c0_0, .int .i64 a0_1, .string a0_2, .int .i64 a0_3, .int .i64 a0_4, .slice A0_5 l0_5.length c0_5, .slice A0_6 l0_6.length c0_6, .slice A0_7 l0_7.length c0_7, .slice A0_8 l0_8.length c0_8, .int .i64 a0_9, .int .i64 a0_10, .string a0_11, .int .i64 a0_12, .int .i64 a0_13, .slice A0_14 l0_14.length c0_14, .slice A0_15 l0_15.length c0_15, .slice A0_16 l0_16.length c0_16, .slice A0_17 l0_17.length c0_17, .slice A0_18 l0_18.length c0_18, .slice A0_19 l0_19.length c0_19, .slice A0_20 l0_20.length c0_20], .int .i64 a1] w fun e w' => e = .returned (.int .i64 r) ∧ Below w.heap.size w w'
abbrev laws_szHead.T (k : Nat) : Prop := ∀ (a0_0 : Int) (a0_1 : Int) (a0_2 : ByteArray) (a0_3 : Int) (a0_4 : Int) (A0_5 : Option Addr) (c0_5 : Nat) (l0_5 : List ByteArray) (A0_6 : Option Addr) (c0_6 : Nat) (l0_6 : List (S65)) (A0_7 : Option Addr) (c0_7 : Nat) (l0_7 : List ByteArray) (A0_8 : Option Addr) (c0_8 : Nat) (l0_8 : List (S68)) (A0_9 : Option Addr) (c0_9 : Nat) (l0_9 : List ByteArray) (A0_10 : Option Addr) (c0_10 : Nat) (l0_10 : List (S71)) (A0_11 : Option Addr) (c0_11 : Nat) (l0_11 : List (S73)) (a1 : Int) (r : Int) (w : World) (hr0_5 : Kd.C Kd.string w A0_5 l0_5.length l0_5) (hc0_5 : l0_5.length ≤ c0_5) (hr0_6 : Kd.C k65 w A0_6 l0_6.length l0_6) (hc0_6 : l0_6.length ≤ c0_6) (hr0_7 : Kd.C Kd.string w A0_7 l0_7.length l0_7) (hc0_7 : l0_7.length ≤ c0_7) (hr0_8 : Kd.C k68 w A0_8 l0_8.length l0_8) (hc0_8 : l0_8.length ≤ c0_8) (hr0_9 : Kd.C Kd.string w A0_9 l0_9.length l0_9) (hc0_9 : l0_9.length ≤ c0_9) (hr0_10 : Kd.C k71 w A0_10 l0_10.length l0_10) (hc0_10 : l0_10.length ≤ c0_10) (hr0_11 : Kd.C k73 w A0_11 l0_11.length l0_11) (hc0_11 : l0_11.length ≤ c0_11) (h : laws_szHead.f k a0_0 a0_1 a0_2 a0_3 a0_4 l0_5 l0_6 l0_7 l0_8 l0_9 l0_10 l0_11 a1 = some r),
  Calls Try.prog 38 #[.agg #[.int .i64 a0_0, .int .i64 a0_1, .string a0_2, .int .i64 a0_3, .int .i64 a0_4, .slice A0_5 l0_5.length c0_5, .slice A0_6 l0_6.length c0_6, .slice A0_7 l0_7.length c0_7, .slice A0_8 l0_8.length c0_8, .slice A0_9 l0_9.length c0_9, .slice A0_10 l0_10.length c0_10, .slice A0_11 l0_11.length c0_11], .int .i64 a1] w fun e w' => e = .returned (.int .i64 r) ∧ Below w.heap.size w w'
abbrev laws_szHeadS.T (k : Nat) : Prop := ∀ (A0 : Option Addr) (c0 : Nat) (l0 : List (S71)) (a1 : Int) (r : Int) (w : World) (hr0 : Kd.C k71 w A0 l0.length l0) (hc0 : l0.length ≤ c0) (h : laws_szHeadS.f k l0 a1 = some r),
  Calls Try.prog 53 #[.slice A0 l0.length c0, .int .i64 a1] w fun e w' => e = .returned (.int .i64 r) ∧ Below w.heap.size w w'
/-! ### laws_szQuery: function 6 -/
theorem laws_szQuery.step (k : Nat) (ih : ∀ m, m < k → laws_szQuery.T m) (ih_15 : ∀ m, m < k → laws_szCompS.T m) (ih_28 : ∀ m, m < k → laws_szComp.T m) (ih_38 : ∀ m, m < k → laws_szHead.T m) (ih_53 : ∀ m, m < k → laws_szHeadS.T m) : laws_szQuery.T k := by
 intro A0_0 c0_0 l0_0 a1 r w hr0_0 hc0_0 h
 cases k with
 | zero => exact absurd h (by simp [laws_szQuery.f])
 | succ k =>
 simp only [laws_szQuery.f] at h
 have hu24 := Try.underlying24
 have HR0_0 := am hr0_0
 have HC0_0 := am hc0_0
 clear hr0_0 hc0_0
 have HB := am (Below.refl w.heap.size w)
 have H : ((laws_szCompS.f k l0_0 a1).bind fun t117 => (if t117 < 0 then (some (-1)) else (some t117))) = some r := h
 clear h
 replace H := Option.bind_eq_some_iff.mp H
 obtain ⟨t117, A30, H⟩ := H
 replace H : (if t117 < 0 then (some (-1)) else (some t117)) = some r := H
 have A3 := am A30
 clear A30
 have HC4 := am H
 clear H
 go_enter Try.func6, Try.ntmps6
 go_upto_if 10 with (first | ((with_reducible refine gate_dst (N := 2) rfl ?_); refine box_event ?hg (N := 2) ?hd (cs := #[.slice A0_0 l0_0.length c0_0]) (t := 24) ?hr ?_; (case hd => rfl); (case hg => rfl); (case hr => exact hrw); intro gb116 hg w5 hbox hb; have n0_ := am (below_step blw hb); have n1_ := am (hbox); have n2_ := am ((by rw [hg]; exact (below_size blw) : w.heap.size ≤ gb116)); have n3_ := n2_; clear HB; revert n0_ n1_ n2_ n3_; intro HB BK116 GW116 GE116; clear hb hbox hg; have hcz6_0 : w5.cell? ⟨gb116, 0, none⟩ = some (.slice A0_0 l0_0.length c0_0) := (blk_cell BK116.out 0).trans rfl; have hfz6_0 := blk_frozen BK116.out 0) | ((with_reducible refine gate_callee (f := 15) rfl ?_); refine goesL_ (some 8) rfl rfl Try.func15 kr rfl #[.slice A0_0 l0_0.length c0_0, .int .i64 a1] rfl mpw ?_; (with_reducible refine (ih_15 k (by omega) _ _ l0_0 a1 t117 _ ?side1 ?side2 A3.out).mono ?_); (case side1 => have X_ := HR0_0; exact cbl); (case side2 => exact HC0_0.out); rintro e w7 ⟨rfl, hb⟩; refine ⟨_, rfl, ?_⟩; have n0_ := am (blk_below (g := gb116) bkw hb); have n1_ := am (below_step blw hb); clear BK116; clear HB; revert n0_ n1_; intro BK116 HB; (try clear hb); (try clear hb2); (try clear hk); (try clear hi)))
 have H := HC4.out
 clear HC4
 by_cases c8 : t117 < 0
 ·rw [if_pos c8] at H
  have c8b0 : decide (t117 < 0) = true := decide_eq_true c8
  clear c8
  (first | rw [c8b0] | (simp only [i64_w, i32_w]; rw [c8b0]) | skip)
  obtain rfl := Option.some.inj H
  go_wp2
  go_ret
  exact ⟨rfw, blw⟩
 rw [if_neg c8] at H
 have c8b0 : decide (t117 < 0) = false := decide_eq_false c8
 clear c8
 (first | rw [c8b0] | (simp only [i64_w, i32_w]; rw [c8b0]) | skip)
 obtain rfl := Option.some.inj H
 go_wp2
 go_ret
 exact ⟨rfw, blw⟩

/-! ### laws_szCompS: function 15 -/
theorem laws_szCompS.step (k : Nat) (ih : ∀ m, m < k → laws_szCompS.T m) (ih_6 : ∀ m, m < k → laws_szQuery.T m) (ih_28 : ∀ m, m < k → laws_szComp.T m) (ih_38 : ∀ m, m < k → laws_szHead.T m) (ih_53 : ∀ m, m < k → laws_szHeadS.T m) : laws_szCompS.T k := by
 intro A0 c0 l0 a1 r w hr0 hc0 h
 cases k with
 | zero => exact absurd h (by simp [laws_szCompS.f])
 | succ k =>
 simp only [laws_szCompS.f] at h
 have hu73 := Try.underlying73
 have HR0 := am hr0
 have HC0 := am hc0
 clear hr0 hc0
 have HB := am (Below.refl w.heap.size w)
 have H : (if (wrap64 (a1 - (l0.length : Int))) < 0 then (some (-1)) else (laws_szCompS.l0 k l0 (wrap64 (a1 - (l0.length : Int))) 0)) = some r := h
 clear h
 by_cases c3 : (wrap64 (a1 - (l0.length : Int))) < 0
 ·rw [if_pos c3] at H
  have c3b0 : decide ((wrap64 (a1 - (l0.length : Int))) < 0) = true := decide_eq_true c3
  clear c3
  obtain rfl := Option.some.inj H
  go_enter Try.func15, Try.ntmps15
  go_wp2
  go_ret
  exact ⟨rfw, blw⟩
 rw [if_neg c3] at H
 have c3b0 : decide ((wrap64 (a1 - (l0.length : Int))) < 0) = false := decide_eq_false c3
 clear c3
 have H' := am H
 clear H
 go_enter Try.func15, Try.ntmps15
 go_wp2
 go_loopg [1, 5] k (fun kq v1 v5 w' => ∃ (x1_1 : Int) (x5_1 : Int), v1 = .int .i64 x1_1 ∧ v5 = .int .i64 x5_1 ∧ Aside0 (laws_szCompS.l0 kq l0 x1_1 x5_1 = some r) ∧ Aside0 (kq ≤ k) ∧ Aside0 (Below w.heap.size w w'))
 case atStart => exact ⟨(wrap64 (a1 - (l0.length : Int))), (0), rfs, rfs, H', ⟨Nat.le_refl _⟩, ⟨blw⟩⟩
 case round =>
  clear H'
  (try clear c1); (try clear p2); (try clear c3); (try clear c3b0)
  obtain ⟨x1_1, x5_1, rfl, rfl, HA, HK1, HB⟩ := hrel
  cases gk with
  | zero => exact absurd HA.out (by simp [laws_szCompS.l0])
  | succ k1 =>
   have H := HA.out
   clear HA
   simp only [laws_szCompS.l0] at H
   by_cases c4 : x5_1 < (l0.length : Int)
   case neg =>
    rw [if_neg c4] at H
    have c4b0 : decide (x5_1 < (l0.length : Int)) = false := decide_eq_false c4
    clear c4
    obtain rfl := Option.some.inj H
    go_wp2
    go_ret
    exact ⟨rfw, blw⟩
   rw [if_pos c4] at H
   have c4b0 : decide (x5_1 < (l0.length : Int)) = true := decide_eq_true c4
   clear c4
   by_cases c5 : 0 ≤ x5_1
   case neg =>
    rw [if_neg c5] at H
    exact absurd H (by simp)
   rw [if_pos c5] at H
   have c5b0 : decide (0 ≤ x5_1) = true := decide_eq_true c5
   clear c5
   replace H := Option.bind_eq_some_iff.mp H
   obtain ⟨t119, A60, H⟩ := H
   replace H : (if t119 < 0 then (some (-1)) else (laws_szCompS.l0 k1 l0 t119 (wrap64 (x5_1 + 1)))) = some r := H
   have A6 := am A60
   clear A60
   have HC7 := am H
   clear H
   have p118 : 0 ≤ (x5_1 : Int) := of_decide_eq_true asw
   have q118 : x5_1 < (l0.length : Int) := of_decide_eq_true asw
   obtain ⟨ad118, A118_0, c118_0, A118_5, c118_5, A118_6, c118_6, A118_7, c118_7, A118_8, c118_8, A118_14, c118_14, A118_15, c118_15, A118_16, c118_16, A118_17, c118_17, A118_18, c118_18, A118_19, c118_19, A118_20, c118_20, e118, hx118_0, hx118_1, hx118_2, hx118_3, hx118_4, hx118_5, hx118_6, hx118_7, hx118_8, hx118_9, hx118_10, hx118_11, hx118_12, hx118_13, hx118_14, hx118_15, hx118_16, hx118_17, hx118_18, hx118_19, hx118_20, hl118_0, hi118_0, hl118_5, hi118_5, hl118_6, hi118_6, hl118_7, hi118_7, hl118_8, hi118_8, hl118_14, hi118_14, hl118_15, hi118_15, hl118_16, hi118_16, hl118_17, hi118_17, hl118_18, hi118_18, hl118_19, hi118_19, hl118_20, hi118_20⟩ := at_T73 HR0.out x5_1 p118 q118
   cases e118
   replace hx118_0 := upw HB.out hx118_0
   replace hx118_1 := upw HB.out hx118_1
   replace hx118_2 := upw HB.out hx118_2
   replace hx118_3 := upw HB.out hx118_3
   replace hx118_4 := upw HB.out hx118_4
   replace hx118_5 := upw HB.out hx118_5
   replace hx118_6 := upw HB.out hx118_6
   replace hx118_7 := upw HB.out hx118_7
   replace hx118_8 := upw HB.out hx118_8
   replace hx118_9 := upw HB.out hx118_9
   replace hx118_10 := upw HB.out hx118_10
   replace hx118_11 := upw HB.out hx118_11
   replace hx118_12 := upw HB.out hx118_12
   replace hx118_13 := upw HB.out hx118_13
   replace hx118_14 := upw HB.out hx118_14
   replace hx118_15 := upw HB.out hx118_15
   replace hx118_16 := upw HB.out hx118_16
   replace hx118_17 := upw HB.out hx118_17
   replace hx118_18 := upw HB.out hx118_18
   replace hx118_19 := upw HB.out hx118_19
   replace hx118_20 := upw HB.out hx118_20
   have HR118_0 := am hi118_0
   have HC118_0 := am hl118_0
   clear hi118_0 hl118_0
   have HR118_5 := am hi118_5
   have HC118_5 := am hl118_5
   clear hi118_5 hl118_5
   have HR118_6 := am hi118_6
   have HC118_6 := am hl118_6
   clear hi118_6 hl118_6
   have HR118_7 := am hi118_7
   have HC118_7 := am hl118_7
   clear hi118_7 hl118_7
   have HR118_8 := am hi118_8
   have HC118_8 := am hl118_8
   clear hi118_8 hl118_8
   have HR118_14 := am hi118_14
   have HC118_14 := am hl118_14
   clear hi118_14 hl118_14
   have HR118_15 := am hi118_15
   have HC118_15 := am hl118_15
   clear hi118_15 hl118_15
   have HR118_16 := am hi118_16
   have HC118_16 := am hl118_16
   clear hi118_16 hl118_16
   have HR118_17 := am hi118_17
   have HC118_17 := am hl118_17
   clear hi118_17 hl118_17
   have HR118_18 := am hi118_18
   have HC118_18 := am hl118_18
   clear hi118_18 hl118_18
   have HR118_19 := am hi118_19
   have HC118_19 := am hl118_19
   clear hi118_19 hl118_19
   have HR118_20 := am hi118_20
   have HC118_20 := am hl118_20
   clear hi118_20 hl118_20
   replace p118 := eq_true p118
   replace q118 := eq_true q118
   go_upto_if 25 with (first | ((with_reducible refine gate_dst (N := 21) rfl ?_); refine wide_load (N := 21) rfl rfl (ty := 73) rfl (Cells_c hx118_0 (Cells'_c hx118_1 (Cells'_c hx118_2 (Cells'_c hx118_3 (Cells'_c hx118_4 (Cells'_c hx118_5 (Cells'_c hx118_6 (Cells'_c hx118_7 (Cells'_c hx118_8 (Cells'_c hx118_9 (Cells'_c hx118_10 (Cells'_c hx118_11 (Cells'_c hx118_12 (Cells'_c hx118_13 (Cells'_c hx118_14 (Cells'_c hx118_15 (Cells'_c hx118_16 (Cells'_c hx118_17 (Cells'_c hx118_18 (Cells'_c hx118_19 (Cells'_c hx118_20 Cells'_n))))))))))))))))))))) ?hx Try.underlying73 rfl kr ?_; (case hx => rfl)) | ((with_reducible refine gate_callee (f := 28) rfl ?_); refine goesL_ (some 23) rfl rfl Try.func28 kr rfl #[.agg #[.slice A118_0 ((rd_T73 l0 x5_1).f0).length c118_0, .int .i64 ((rd_T73 l0 x5_1).f1.f0), .string ((rd_T73 l0 x5_1).f1.f1), .int .i64 ((rd_T73 l0 x5_1).f1.f2), .int .i64 ((rd_T73 l0 x5_1).f1.f3.f0), .slice A118_5 ((rd_T73 l0 x5_1).f1.f3.f1).length c118_5, .slice A118_6 ((rd_T73 l0 x5_1).f1.f3.f2).length c118_6, .slice A118_7 ((rd_T73 l0 x5_1).f1.f4).length c118_7, .slice A118_8 ((rd_T73 l0 x5_1).f1.f5).length c118_8, .int .i64 ((rd_T73 l0 x5_1).f2.f0), .int .i64 ((rd_T73 l0 x5_1).f2.f1.f0), .string ((rd_T73 l0 x5_1).f2.f1.f1), .int .i64 ((rd_T73 l0 x5_1).f2.f1.f2), .int .i64 ((rd_T73 l0 x5_1).f2.f1.f3.f0), .slice A118_14 ((rd_T73 l0 x5_1).f2.f1.f3.f1).length c118_14, .slice A118_15 ((rd_T73 l0 x5_1).f2.f1.f3.f2).length c118_15, .slice A118_16 ((rd_T73 l0 x5_1).f2.f1.f4).length c118_16, .slice A118_17 ((rd_T73 l0 x5_1).f2.f1.f5).length c118_17, .slice A118_18 ((rd_T73 l0 x5_1).f2.f2).length c118_18, .slice A118_19 ((rd_T73 l0 x5_1).f2.f3).length c118_19, .slice A118_20 ((rd_T73 l0 x5_1).f2.f4.f0).length c118_20], .int .i64 x1_1] rfl mpw ?_; (with_reducible refine (ih_28 k1 (by have := HK1.out; omega) _ _ ((rd_T73 l0 x5_1).f0) ((rd_T73 l0 x5_1).f1.f0) ((rd_T73 l0 x5_1).f1.f1) ((rd_T73 l0 x5_1).f1.f2) ((rd_T73 l0 x5_1).f1.f3.f0) _ _ ((rd_T73 l0 x5_1).f1.f3.f1) _ _ ((rd_T73 l0 x5_1).f1.f3.f2) _ _ ((rd_T73 l0 x5_1).f1.f4) _ _ ((rd_T73 l0 x5_1).f1.f5) ((rd_T73 l0 x5_1).f2.f0) ((rd_T73 l0 x5_1).f2.f1.f0) ((rd_T73 l0 x5_1).f2.f1.f1) ((rd_T73 l0 x5_1).f2.f1.f2) ((rd_T73 l0 x5_1).f2.f1.f3.f0) _ _ ((rd_T73 l0 x5_1).f2.f1.f3.f1) _ _ ((rd_T73 l0 x5_1).f2.f1.f3.f2) _ _ ((rd_T73 l0 x5_1).f2.f1.f4) _ _ ((rd_T73 l0 x5_1).f2.f1.f5) _ _ ((rd_T73 l0 x5_1).f2.f2) _ _ ((rd_T73 l0 x5_1).f2.f3) _ _ ((rd_T73 l0 x5_1).f2.f4.f0) x1_1 t119 _ ?side1 ?side2 ?side3 ?side4 ?side5 ?side6 ?side7 ?side8 ?side9 ?side10 ?side11 ?side12 ?side13 ?side14 ?side15 ?side16 ?side17 ?side18 ?side19 ?side20 ?side21 ?side22 ?side23 ?side24 A6.out).mono ?_); (case side1 => have X_ := HR118_0; exact cbl); (case side2 => exact HC118_0.out); (case side3 => have X_ := HR118_5; exact cbl); (case side4 => exact HC118_5.out); (case side5 => have X_ := HR118_6; exact cbl); (case side6 => exact HC118_6.out); (case side7 => have X_ := HR118_7; exact cbl); (case side8 => exact HC118_7.out); (case side9 => have X_ := HR118_8; exact cbl); (case side10 => exact HC118_8.out); (case side11 => have X_ := HR118_14; exact cbl); (case side12 => exact HC118_14.out); (case side13 => have X_ := HR118_15; exact cbl); (case side14 => exact HC118_15.out); (case side15 => have X_ := HR118_16; exact cbl); (case side16 => exact HC118_16.out); (case side17 => have X_ := HR118_17; exact cbl); (case side18 => exact HC118_17.out); (case side19 => have X_ := HR118_18; exact cbl); (case side20 => exact HC118_18.out); (case side21 => have X_ := HR118_19; exact cbl); (case side22 => exact HC118_19.out); (case side23 => have X_ := HR118_20; exact cbl); (case side24 => exact HC118_20.out); rintro e w8 ⟨rfl, hb⟩; refine ⟨_, rfl, ?_⟩; have n0_ := am (below_step blw hb); clear HB; revert n0_; intro HB; (try clear hb); (try clear hb2); (try clear hk); (try clear hi)))
   have H := HC7.out
   clear HC7
   by_cases c9 : t119 < 0
   ·rw [if_pos c9] at H
    have c9b0 : decide (t119 < 0) = true := decide_eq_true c9
    clear c9
    (first | rw [c9b0] | (simp only [i64_w, i32_w]; rw [c9b0]) | skip)
    obtain rfl := Option.some.inj H
    go_wp2
    go_ret
    exact ⟨rfw, blw⟩
   rw [if_neg c9] at H
   have c9b0 : decide (t119 < 0) = false := decide_eq_false c9
   clear c9
   (first | rw [c9b0] | (simp only [i64_w, i32_w]; rw [c9b0]) | skip)
   have H' := am H
   clear H
   go_wp2
   go_roundg k1
   case measure => have := HK1.out; omega
   case rel => exact ⟨(t119), (wrap64 (x5_1 + 1)), rfs, rfs, H', ⟨by have := HK1.out; omega⟩, ⟨blw⟩⟩

/-! ### laws_szComp: function 28 -/
theorem laws_szComp.step (k : Nat) (ih : ∀ m, m < k → laws_szComp.T m) (ih_6 : ∀ m, m < k → laws_szQuery.T m) (ih_15 : ∀ m, m < k → laws_szCompS.T m) (ih_38 : ∀ m, m < k → laws_szHead.T m) (ih_53 : ∀ m, m < k → laws_szHeadS.T m) : laws_szComp.T k := by
 intro A0_0 c0_0 l0_0 a0_1 a0_2 a0_3 a0_4 A0_5 c0_5 l0_5 A0_6 c0_6 l0_6 A0_7 c0_7 l0_7 A0_8 c0_8 l0_8 a0_9 a0_10 a0_11 a0_12 a0_13 A0_14 c0_14 l0_14 A0_15 c0_15 l0_15 A0_16 c0_16 l0_16 A0_17 c0_17 l0_17 A0_18 c0_18 l0_18 A0_19 c0_19 l0_19 A0_20 c0_20 l0_20 a1 r w hr0_0 hc0_0 hr0_5 hc0_5 hr0_6 hc0_6 hr0_7 hc0_7 hr0_8 hc0_8 hr0_14 hc0_14 hr0_15 hc0_15 hr0_16 hc0_16 hr0_17 hc0_17 hr0_18 hc0_18 hr0_19 hc0_19 hr0_20 hc0_20 h
 cases k with
 | zero => exact absurd h (by simp [laws_szComp.f])
 | succ k =>
 simp only [laws_szComp.f] at h
 have hu73 := Try.underlying73
 have hu68 := Try.underlying68
 have hu71 := Try.underlying71
 have HR0_0 := am hr0_0
 have HC0_0 := am hc0_0
 clear hr0_0 hc0_0
 have HR0_5 := am hr0_5
 have HC0_5 := am hc0_5
 clear hr0_5 hc0_5
 have HR0_6 := am hr0_6
 have HC0_6 := am hc0_6
 clear hr0_6 hc0_6
 have HR0_7 := am hr0_7
 have HC0_7 := am hc0_7
 clear hr0_7 hc0_7
 have HR0_8 := am hr0_8
 have HC0_8 := am hc0_8
 clear hr0_8 hc0_8
 have HR0_14 := am hr0_14
 have HC0_14 := am hc0_14
 clear hr0_14 hc0_14
 have HR0_15 := am hr0_15
 have HC0_15 := am hc0_15
 clear hr0_15 hc0_15
 have HR0_16 := am hr0_16
 have HC0_16 := am hc0_16
 clear hr0_16 hc0_16
 have HR0_17 := am hr0_17
 have HC0_17 := am hc0_17
 clear hr0_17 hc0_17
 have HR0_18 := am hr0_18
 have HC0_18 := am hc0_18
 clear hr0_18 hc0_18
 have HR0_19 := am hr0_19
 have HC0_19 := am hc0_19
 clear hr0_19 hc0_19
 have HR0_20 := am hr0_20
 have HC0_20 := am hc0_20
 clear hr0_20 hc0_20
 have HB := am (Below.refl w.heap.size w)
 have H : ((laws_szGenS.f k l0_0 a1).bind fun t121 => (if t121 < 0 then (some (-1)) else ((laws_szTerm.f k a0_1 a0_2 a0_3 a0_4 l0_5 l0_6 l0_7 l0_8 t121).bind fun t122 => (if t122 < 0 then (some (-1)) else ((laws_szHead.f k a0_9 a0_10 a0_11 a0_12 a0_13 l0_14 l0_15 l0_16 l0_17 l0_18 l0_19 l0_20 t122).bind fun t123 => (if t123 < 0 then (some (-1)) else (some t123))))))) = some r := h
 clear h
 replace H := Option.bind_eq_some_iff.mp H
 obtain ⟨t121, A30, H⟩ := H
 replace H : (if t121 < 0 then (some (-1)) else ((laws_szTerm.f k a0_1 a0_2 a0_3 a0_4 l0_5 l0_6 l0_7 l0_8 t121).bind fun t122 => (if t122 < 0 then (some (-1)) else ((laws_szHead.f k a0_9 a0_10 a0_11 a0_12 a0_13 l0_14 l0_15 l0_16 l0_17 l0_18 l0_19 l0_20 t122).bind fun t123 => (if t123 < 0 then (some (-1)) else (some t123)))))) = some r := H
 have A3 := am A30
 clear A30
 have HC4 := am H
 clear H
 go_enter Try.func28, Try.ntmps28
 go_upto_if 10 with (first | ((with_reducible refine gate_dst (N := 2) rfl ?_); refine box_event ?hg (N := 2) ?hd (cs := #[.slice A0_0 l0_0.length c0_0, .int .i64 a0_1, .string a0_2, .int .i64 a0_3, .int .i64 a0_4, .slice A0_5 l0_5.length c0_5, .slice A0_6 l0_6.length c0_6, .slice A0_7 l0_7.length c0_7, .slice A0_8 l0_8.length c0_8, .int .i64 a0_9, .int .i64 a0_10, .string a0_11, .int .i64 a0_12, .int .i64 a0_13, .slice A0_14 l0_14.length c0_14, .slice A0_15 l0_15.length c0_15, .slice A0_16 l0_16.length c0_16, .slice A0_17 l0_17.length c0_17, .slice A0_18 l0_18.length c0_18, .slice A0_19 l0_19.length c0_19, .slice A0_20 l0_20.length c0_20]) (t := 73) ?hr ?_; (case hd => rfl); (case hg => rfl); (case hr => exact hrw); intro gb120 hg w5 hbox hb; have n0_ := am (below_step blw hb); have n1_ := am (hbox); have n2_ := am ((by rw [hg]; exact (below_size blw) : w.heap.size ≤ gb120)); have n3_ := n2_; clear HB; revert n0_ n1_ n2_ n3_; intro HB BK120 GW120 GE120; clear hb hbox hg; obtain ⟨hcz6_0, hcz6_1, hcz6_2, hcz6_3, hcz6_4, hcz6_5, hcz6_6, hcz6_7, hcz6_8, hcz6_9, hcz6_10, hcz6_11, hcz6_12, hcz6_13, hcz6_14, hcz6_15, hcz6_16, hcz6_17, hcz6_18, hcz6_19, hcz6_20⟩ := cls21 BK120.out; obtain ⟨hfz6_0, hfz6_1, hfz6_2, hfz6_3, hfz6_4, hfz6_5, hfz6_6, hfz6_7, hfz6_8, hfz6_9, hfz6_10, hfz6_11, hfz6_12, hfz6_13, hfz6_14, hfz6_15, hfz6_16, hfz6_17, hfz6_18, hfz6_19, hfz6_20⟩ := frz21 BK120.out) | ((with_reducible refine gate_callee (f := 36) rfl ?_); refine goesL_ (some 8) rfl rfl Try.func36 kr rfl #[.slice A0_0 l0_0.length c0_0, .int .i64 a1] rfl mpw ?_; (with_reducible refine (laws_szGenS.calls k _ _ l0_0 a1 t121 _ ?side1 ?side2 A3.out).mono ?_); (case side1 => have X_ := HR0_0; exact cbl); (case side2 => exact HC0_0.out); rintro e w7 ⟨rfl, hb⟩; refine ⟨_, rfl, ?_⟩; have n0_ := am (blk_below (g := gb120) bkw hb); have n1_ := am (below_step blw hb); clear BK120; clear HB; revert n0_ n1_; intro BK120 HB; (try clear hb); (try clear hb2); (try clear hk); (try clear hi)))
 (try clear hcz6_0 hcz6_1 hcz6_10 hcz6_11 hcz6_12 hcz6_13 hcz6_14 hcz6_15 hcz6_16 hcz6_17 hcz6_18 hcz6_19 hcz6_2 hcz6_20 hcz6_3 hcz6_4 hcz6_5 hcz6_6 hcz6_7 hcz6_8 hcz6_9); (try clear hfz6_0 hfz6_1 hfz6_10 hfz6_11 hfz6_12 hfz6_13 hfz6_14 hfz6_15 hfz6_16 hfz6_17 hfz6_18 hfz6_19 hfz6_2 hfz6_20 hfz6_3 hfz6_4 hfz6_5 hfz6_6 hfz6_7 hfz6_8 hfz6_9)
 have H := HC4.out
 clear HC4
 by_cases c8 : t121 < 0
 ·rw [if_pos c8] at H
  have c8b0 : decide (t121 < 0) = true := decide_eq_true c8
  clear c8
  (first | rw [c8b0] | (simp only [i64_w, i32_w]; rw [c8b0]) | skip)
  obtain rfl := Option.some.inj H
  go_wp2
  go_ret
  exact ⟨rfw, blw⟩
 rw [if_neg c8] at H
 have c8b0 : decide (t121 < 0) = false := decide_eq_false c8
 clear c8
 (first | rw [c8b0] | (simp only [i64_w, i32_w]; rw [c8b0]) | skip)
 replace H := Option.bind_eq_some_iff.mp H
 obtain ⟨t122, A90, H⟩ := H
 replace H : (if t122 < 0 then (some (-1)) else ((laws_szHead.f k a0_9 a0_10 a0_11 a0_12 a0_13 l0_14 l0_15 l0_16 l0_17 l0_18 l0_19 l0_20 t122).bind fun t123 => (if t123 < 0 then (some (-1)) else (some t123)))) = some r := H
 have A9 := am A90
 clear A90
 have HC10 := am H
 clear H
 obtain ⟨hcz11_0, hcz11_1, hcz11_2, hcz11_3, hcz11_4, hcz11_5, hcz11_6, hcz11_7, hcz11_8, hcz11_9, hcz11_10, hcz11_11, hcz11_12, hcz11_13, hcz11_14, hcz11_15, hcz11_16, hcz11_17, hcz11_18, hcz11_19, hcz11_20⟩ := cls21 BK120.out
 obtain ⟨hfz11_0, hfz11_1, hfz11_2, hfz11_3, hfz11_4, hfz11_5, hfz11_6, hfz11_7, hfz11_8, hfz11_9, hfz11_10, hfz11_11, hfz11_12, hfz11_13, hfz11_14, hfz11_15, hfz11_16, hfz11_17, hfz11_18, hfz11_19, hfz11_20⟩ := frz21 BK120.out
 go_upto_if 16 with (first | ((with_reducible refine gate_callee (f := 37) rfl ?_); refine goesL_ (some 14) rfl rfl Try.func37 kr rfl #[.agg #[.int .i64 a0_1, .string a0_2, .int .i64 a0_3, .int .i64 a0_4, .slice A0_5 l0_5.length c0_5, .slice A0_6 l0_6.length c0_6, .slice A0_7 l0_7.length c0_7, .slice A0_8 l0_8.length c0_8], .int .i64 t121] rfl mpw ?_; (with_reducible refine (laws_szTerm.calls k a0_1 a0_2 a0_3 a0_4 _ _ l0_5 _ _ l0_6 _ _ l0_7 _ _ l0_8 t121 t122 _ ?side1 ?side2 ?side3 ?side4 ?side5 ?side6 ?side7 ?side8 A9.out).mono ?_); (case side1 => have X_ := HR0_5; exact cbl); (case side2 => exact HC0_5.out); (case side3 => have X_ := HR0_6; exact cbl); (case side4 => exact HC0_6.out); (case side5 => have X_ := HR0_7; exact cbl); (case side6 => exact HC0_7.out); (case side7 => have X_ := HR0_8; exact cbl); (case side8 => exact HC0_8.out); rintro e w12 ⟨rfl, hb⟩; refine ⟨_, rfl, ?_⟩; have n0_ := am (blk_below (g := gb120) bkw hb); have n1_ := am (below_step blw hb); clear BK120; clear HB; revert n0_ n1_; intro BK120 HB; (try clear hb); (try clear hb2); (try clear hk); (try clear hi)))
 have H := HC10.out
 clear HC10
 by_cases c13 : t122 < 0
 ·rw [if_pos c13] at H
  have c13b0 : decide (t122 < 0) = true := decide_eq_true c13
  clear c13
  (first | rw [c13b0] | (simp only [i64_w, i32_w]; rw [c13b0]) | skip)
  obtain rfl := Option.some.inj H
  go_wp2
  go_ret
  exact ⟨rfw, blw⟩
 rw [if_neg c13] at H
 have c13b0 : decide (t122 < 0) = false := decide_eq_false c13
 clear c13
 (first | rw [c13b0] | (simp only [i64_w, i32_w]; rw [c13b0]) | skip)
 replace H := Option.bind_eq_some_iff.mp H
 obtain ⟨t123, A140, H⟩ := H
 replace H : (if t123 < 0 then (some (-1)) else (some t123)) = some r := H
 have A14 := am A140
 clear A140
 have HC15 := am H
 clear H
 obtain ⟨hcz16_0, hcz16_1, hcz16_2, hcz16_3, hcz16_4, hcz16_5, hcz16_6, hcz16_7, hcz16_8, hcz16_9, hcz16_10, hcz16_11, hcz16_12, hcz16_13, hcz16_14, hcz16_15, hcz16_16, hcz16_17, hcz16_18, hcz16_19, hcz16_20⟩ := cls21 BK120.out
 obtain ⟨hfz16_0, hfz16_1, hfz16_2, hfz16_3, hfz16_4, hfz16_5, hfz16_6, hfz16_7, hfz16_8, hfz16_9, hfz16_10, hfz16_11, hfz16_12, hfz16_13, hfz16_14, hfz16_15, hfz16_16, hfz16_17, hfz16_18, hfz16_19, hfz16_20⟩ := frz21 BK120.out
 go_upto_if 22 with (first | ((with_reducible refine gate_callee (f := 38) rfl ?_); refine goesL_ (some 20) rfl rfl Try.func38 kr rfl #[.agg #[.int .i64 a0_9, .int .i64 a0_10, .string a0_11, .int .i64 a0_12, .int .i64 a0_13, .slice A0_14 l0_14.length c0_14, .slice A0_15 l0_15.length c0_15, .slice A0_16 l0_16.length c0_16, .slice A0_17 l0_17.length c0_17, .slice A0_18 l0_18.length c0_18, .slice A0_19 l0_19.length c0_19, .slice A0_20 l0_20.length c0_20], .int .i64 t122] rfl mpw ?_; (with_reducible refine (ih_38 k (by omega) a0_9 a0_10 a0_11 a0_12 a0_13 _ _ l0_14 _ _ l0_15 _ _ l0_16 _ _ l0_17 _ _ l0_18 _ _ l0_19 _ _ l0_20 t122 t123 _ ?side1 ?side2 ?side3 ?side4 ?side5 ?side6 ?side7 ?side8 ?side9 ?side10 ?side11 ?side12 ?side13 ?side14 A14.out).mono ?_); (case side1 => have X_ := HR0_14; exact cbl); (case side2 => exact HC0_14.out); (case side3 => have X_ := HR0_15; exact cbl); (case side4 => exact HC0_15.out); (case side5 => have X_ := HR0_16; exact cbl); (case side6 => exact HC0_16.out); (case side7 => have X_ := HR0_17; exact cbl); (case side8 => exact HC0_17.out); (case side9 => have X_ := HR0_18; exact cbl); (case side10 => exact HC0_18.out); (case side11 => have X_ := HR0_19; exact cbl); (case side12 => exact HC0_19.out); (case side13 => have X_ := HR0_20; exact cbl); (case side14 => exact HC0_20.out); rintro e w17 ⟨rfl, hb⟩; refine ⟨_, rfl, ?_⟩; have n0_ := am (blk_below (g := gb120) bkw hb); have n1_ := am (below_step blw hb); clear BK120; clear HB; revert n0_ n1_; intro BK120 HB; (try clear hb); (try clear hb2); (try clear hk); (try clear hi)))
 have H := HC15.out
 clear HC15
 by_cases c18 : t123 < 0
 ·rw [if_pos c18] at H
  have c18b0 : decide (t123 < 0) = true := decide_eq_true c18
  clear c18
  (first | rw [c18b0] | (simp only [i64_w, i32_w]; rw [c18b0]) | skip)
  obtain rfl := Option.some.inj H
  go_wp2
  go_ret
  exact ⟨rfw, blw⟩
 rw [if_neg c18] at H
 have c18b0 : decide (t123 < 0) = false := decide_eq_false c18
 clear c18
 (first | rw [c18b0] | (simp only [i64_w, i32_w]; rw [c18b0]) | skip)
 obtain rfl := Option.some.inj H
 go_wp2
 go_ret
 exact ⟨rfw, blw⟩

/-! ### laws_szHead: function 38 -/
theorem laws_szHead.step (k : Nat) (ih : ∀ m, m < k → laws_szHead.T m) (ih_6 : ∀ m, m < k → laws_szQuery.T m) (ih_15 : ∀ m, m < k → laws_szCompS.T m) (ih_28 : ∀ m, m < k → laws_szComp.T m) (ih_53 : ∀ m, m < k → laws_szHeadS.T m) : laws_szHead.T k := by
 intro a0_0 a0_1 a0_2 a0_3 a0_4 A0_5 c0_5 l0_5 A0_6 c0_6 l0_6 A0_7 c0_7 l0_7 A0_8 c0_8 l0_8 A0_9 c0_9 l0_9 A0_10 c0_10 l0_10 A0_11 c0_11 l0_11 a1 r w hr0_5 hc0_5 hr0_6 hc0_6 hr0_7 hc0_7 hr0_8 hc0_8 hr0_9 hc0_9 hr0_10 hc0_10 hr0_11 hc0_11 h
 cases k with
 | zero => exact absurd h (by simp [laws_szHead.f])
 | succ k =>
 simp only [laws_szHead.f] at h
 have hu71 := Try.underlying71
 have hu68 := Try.underlying68
 have hu24 := Try.underlying24
 have HR0_5 := am hr0_5
 have HC0_5 := am hc0_5
 clear hr0_5 hc0_5
 have HR0_6 := am hr0_6
 have HC0_6 := am hc0_6
 clear hr0_6 hc0_6
 have HR0_7 := am hr0_7
 have HC0_7 := am hc0_7
 clear hr0_7 hc0_7
 have HR0_8 := am hr0_8
 have HC0_8 := am hc0_8
 clear hr0_8 hc0_8
 have HR0_9 := am hr0_9
 have HC0_9 := am hc0_9
 clear hr0_9 hc0_9
 have HR0_10 := am hr0_10
 have HC0_10 := am hc0_10
 clear hr0_10 hc0_10
 have HR0_11 := am hr0_11
 have HC0_11 := am hc0_11
 clear hr0_11 hc0_11
 have HB := am (Below.refl w.heap.size w)
 have H : ((laws_szTerm.f k a0_1 a0_2 a0_3 a0_4 l0_5 l0_6 l0_7 l0_8 a1).bind fun t125 => (if t125 < 0 then (some (-1)) else ((laws_szStringS.f k l0_9 t125).bind fun t126 => (if t126 < 0 then (some (-1)) else ((laws_szHeadS.f k l0_10 t126).bind fun t127 => (if t127 < 0 then (some (-1)) else ((laws_szQuery.f k l0_11 t127).bind fun t128 => (if t128 < 0 then (some (-1)) else (some t128))))))))) = some r := h
 clear h
 replace H := Option.bind_eq_some_iff.mp H
 obtain ⟨t125, A30, H⟩ := H
 replace H : (if t125 < 0 then (some (-1)) else ((laws_szStringS.f k l0_9 t125).bind fun t126 => (if t126 < 0 then (some (-1)) else ((laws_szHeadS.f k l0_10 t126).bind fun t127 => (if t127 < 0 then (some (-1)) else ((laws_szQuery.f k l0_11 t127).bind fun t128 => (if t128 < 0 then (some (-1)) else (some t128)))))))) = some r := H
 have A3 := am A30
 clear A30
 have HC4 := am H
 clear H
 go_enter Try.func38, Try.ntmps38
 go_upto_if 10 with (first | ((with_reducible refine gate_dst (N := 2) rfl ?_); refine box_event ?hg (N := 2) ?hd (cs := #[.int .i64 a0_0, .int .i64 a0_1, .string a0_2, .int .i64 a0_3, .int .i64 a0_4, .slice A0_5 l0_5.length c0_5, .slice A0_6 l0_6.length c0_6, .slice A0_7 l0_7.length c0_7, .slice A0_8 l0_8.length c0_8, .slice A0_9 l0_9.length c0_9, .slice A0_10 l0_10.length c0_10, .slice A0_11 l0_11.length c0_11]) (t := 71) ?hr ?_; (case hd => rfl); (case hg => rfl); (case hr => exact hrw); intro gb124 hg w5 hbox hb; have n0_ := am (below_step blw hb); have n1_ := am (hbox); have n2_ := am ((by rw [hg]; exact (below_size blw) : w.heap.size ≤ gb124)); have n3_ := n2_; clear HB; revert n0_ n1_ n2_ n3_; intro HB BK124 GW124 GE124; clear hb hbox hg; obtain ⟨hcz6_0, hcz6_1, hcz6_2, hcz6_3, hcz6_4, hcz6_5, hcz6_6, hcz6_7, hcz6_8, hcz6_9, hcz6_10, hcz6_11⟩ := cls12 BK124.out; obtain ⟨hfz6_0, hfz6_1, hfz6_2, hfz6_3, hfz6_4, hfz6_5, hfz6_6, hfz6_7, hfz6_8, hfz6_9, hfz6_10, hfz6_11⟩ := frz12 BK124.out) | ((with_reducible refine gate_callee (f := 37) rfl ?_); refine goesL_ (some 8) rfl rfl Try.func37 kr rfl #[.agg #[.int .i64 a0_1, .string a0_2, .int .i64 a0_3, .int .i64 a0_4, .slice A0_5 l0_5.length c0_5, .slice A0_6 l0_6.length c0_6, .slice A0_7 l0_7.length c0_7, .slice A0_8 l0_8.length c0_8], .int .i64 a1] rfl mpw ?_; (with_reducible refine (laws_szTerm.calls k a0_1 a0_2 a0_3 a0_4 _ _ l0_5 _ _ l0_6 _ _ l0_7 _ _ l0_8 a1 t125 _ ?side1 ?side2 ?side3 ?side4 ?side5 ?side6 ?side7 ?side8 A3.out).mono ?_); (case side1 => have X_ := HR0_5; exact cbl); (case side2 => exact HC0_5.out); (case side3 => have X_ := HR0_6; exact cbl); (case side4 => exact HC0_6.out); (case side5 => have X_ := HR0_7; exact cbl); (case side6 => exact HC0_7.out); (case side7 => have X_ := HR0_8; exact cbl); (case side8 => exact HC0_8.out); rintro e w7 ⟨rfl, hb⟩; refine ⟨_, rfl, ?_⟩; have n0_ := am (blk_below (g := gb124) bkw hb); have n1_ := am (below_step blw hb); clear BK124; clear HB; revert n0_ n1_; intro BK124 HB; (try clear hb); (try clear hb2); (try clear hk); (try clear hi)))
 (try clear hcz6_0 hcz6_1 hcz6_10 hcz6_11 hcz6_2 hcz6_3 hcz6_4 hcz6_5 hcz6_6 hcz6_7 hcz6_8 hcz6_9); (try clear hfz6_0 hfz6_1 hfz6_10 hfz6_11 hfz6_2 hfz6_3 hfz6_4 hfz6_5 hfz6_6 hfz6_7 hfz6_8 hfz6_9)
 have H := HC4.out
 clear HC4
 by_cases c8 : t125 < 0
 ·rw [if_pos c8] at H
  have c8b0 : decide (t125 < 0) = true := decide_eq_true c8
  clear c8
  (first | rw [c8b0] | (simp only [i64_w, i32_w]; rw [c8b0]) | skip)
  obtain rfl := Option.some.inj H
  go_wp2
  go_ret
  exact ⟨rfw, blw⟩
 rw [if_neg c8] at H
 have c8b0 : decide (t125 < 0) = false := decide_eq_false c8
 clear c8
 (first | rw [c8b0] | (simp only [i64_w, i32_w]; rw [c8b0]) | skip)
 replace H := Option.bind_eq_some_iff.mp H
 obtain ⟨t126, A90, H⟩ := H
 replace H : (if t126 < 0 then (some (-1)) else ((laws_szHeadS.f k l0_10 t126).bind fun t127 => (if t127 < 0 then (some (-1)) else ((laws_szQuery.f k l0_11 t127).bind fun t128 => (if t128 < 0 then (some (-1)) else (some t128)))))) = some r := H
 have A9 := am A90
 clear A90
 have HC10 := am H
 clear H
 obtain ⟨hcz11_0, hcz11_1, hcz11_2, hcz11_3, hcz11_4, hcz11_5, hcz11_6, hcz11_7, hcz11_8, hcz11_9, hcz11_10, hcz11_11⟩ := cls12 BK124.out
 obtain ⟨hfz11_0, hfz11_1, hfz11_2, hfz11_3, hfz11_4, hfz11_5, hfz11_6, hfz11_7, hfz11_8, hfz11_9, hfz11_10, hfz11_11⟩ := frz12 BK124.out
 go_upto_if 16 with (first | ((with_reducible refine gate_callee (f := 51) rfl ?_); refine goesL_ (some 14) rfl rfl Try.func51 kr rfl #[.slice A0_9 l0_9.length c0_9, .int .i64 t125] rfl mpw ?_; (with_reducible refine (laws_szStringS.calls k _ _ l0_9 t125 t126 _ ?side1 ?side2 A9.out).mono ?_); (case side1 => have X_ := HR0_9; exact cbl); (case side2 => exact HC0_9.out); rintro e w' ⟨rfl, ⟨nd, rfl⟩⟩; refine ⟨_, rfl, ?_⟩))
 have H := HC10.out
 clear HC10
 by_cases c12 : t126 < 0
 ·rw [if_pos c12] at H
  have c12b0 : decide (t126 < 0) = true := decide_eq_true c12
  clear c12
  (first | rw [c12b0] | (simp only [i64_w, i32_w]; rw [c12b0]) | skip)
  obtain rfl := Option.some.inj H
  go_wp2
  go_ret
  exact ⟨rfw, blw⟩
 rw [if_neg c12] at H
 have c12b0 : decide (t126 < 0) = false := decide_eq_false c12
 clear c12
 (first | rw [c12b0] | (simp only [i64_w, i32_w]; rw [c12b0]) | skip)
 replace H := Option.bind_eq_some_iff.mp H
 obtain ⟨t127, A130, H⟩ := H
 replace H : (if t127 < 0 then (some (-1)) else ((laws_szQuery.f k l0_11 t127).bind fun t128 => (if t128 < 0 then (some (-1)) else (some t128)))) = some r := H
 have A13 := am A130
 clear A130
 have HC14 := am H
 clear H
 obtain ⟨hcz15_0, hcz15_1, hcz15_2, hcz15_3, hcz15_4, hcz15_5, hcz15_6, hcz15_7, hcz15_8, hcz15_9, hcz15_10, hcz15_11⟩ := cls12 BK124.out
 obtain ⟨hfz15_0, hfz15_1, hfz15_2, hfz15_3, hfz15_4, hfz15_5, hfz15_6, hfz15_7, hfz15_8, hfz15_9, hfz15_10, hfz15_11⟩ := frz12 BK124.out
 go_upto_if 22 with (first | ((with_reducible refine gate_callee (f := 53) rfl ?_); refine goesL_ (some 20) rfl rfl Try.func53 kr rfl #[.slice A0_10 l0_10.length c0_10, .int .i64 t126] rfl mpw ?_; (with_reducible refine (ih_53 k (by omega) _ _ l0_10 t126 t127 _ ?side1 ?side2 A13.out).mono ?_); (case side1 => have X_ := HR0_10; exact cbl); (case side2 => exact HC0_10.out); rintro e w16 ⟨rfl, hb⟩; refine ⟨_, rfl, ?_⟩; have n0_ := am (blk_below (g := gb124) bkw hb); have n1_ := am (below_step blw hb); clear BK124; clear HB; revert n0_ n1_; intro BK124 HB; (try clear hb); (try clear hb2); (try clear hk); (try clear hi)))
 have H := HC14.out
 clear HC14
 by_cases c17 : t127 < 0
 ·rw [if_pos c17] at H
  have c17b0 : decide (t127 < 0) = true := decide_eq_true c17
  clear c17
  (first | rw [c17b0] | (simp only [i64_w, i32_w]; rw [c17b0]) | skip)
  obtain rfl := Option.some.inj H
  go_wp2
  go_ret
  exact ⟨rfw, blw⟩
 rw [if_neg c17] at H
 have c17b0 : decide (t127 < 0) = false := decide_eq_false c17
 clear c17
 (first | rw [c17b0] | (simp only [i64_w, i32_w]; rw [c17b0]) | skip)
 replace H := Option.bind_eq_some_iff.mp H
 obtain ⟨t128, A180, H⟩ := H
 replace H : (if t128 < 0 then (some (-1)) else (some t128)) = some r := H
 have A18 := am A180
 clear A180
 have HC19 := am H
 clear H
 obtain ⟨hcz20_0, hcz20_1, hcz20_2, hcz20_3, hcz20_4, hcz20_5, hcz20_6, hcz20_7, hcz20_8, hcz20_9, hcz20_10, hcz20_11⟩ := cls12 BK124.out
 obtain ⟨hfz20_0, hfz20_1, hfz20_2, hfz20_3, hfz20_4, hfz20_5, hfz20_6, hfz20_7, hfz20_8, hfz20_9, hfz20_10, hfz20_11⟩ := frz12 BK124.out
 go_upto_if 28 with (first | ((with_reducible refine gate_callee (f := 6) rfl ?_); refine goesL_ (some 26) rfl rfl Try.func6 kr rfl #[.agg #[.slice A0_11 l0_11.length c0_11], .int .i64 t127] rfl mpw ?_; (with_reducible refine (ih_6 k (by omega) _ _ l0_11 t127 t128 _ ?side1 ?side2 A18.out).mono ?_); (case side1 => have X_ := HR0_11; exact cbl); (case side2 => exact HC0_11.out); rintro e w21 ⟨rfl, hb⟩; refine ⟨_, rfl, ?_⟩; have n0_ := am (blk_below (g := gb124) bkw hb); have n1_ := am (below_step blw hb); clear BK124; clear HB; revert n0_ n1_; intro BK124 HB; (try clear hb); (try clear hb2); (try clear hk); (try clear hi)))
 have H := HC19.out
 clear HC19
 by_cases c22 : t128 < 0
 ·rw [if_pos c22] at H
  have c22b0 : decide (t128 < 0) = true := decide_eq_true c22
  clear c22
  (first | rw [c22b0] | (simp only [i64_w, i32_w]; rw [c22b0]) | skip)
  obtain rfl := Option.some.inj H
  go_wp2
  go_ret
  exact ⟨rfw, blw⟩
 rw [if_neg c22] at H
 have c22b0 : decide (t128 < 0) = false := decide_eq_false c22
 clear c22
 (first | rw [c22b0] | (simp only [i64_w, i32_w]; rw [c22b0]) | skip)
 obtain rfl := Option.some.inj H
 go_wp2
 go_ret
 exact ⟨rfw, blw⟩

/-! ### laws_szHeadS: function 53 -/
theorem laws_szHeadS.step (k : Nat) (ih : ∀ m, m < k → laws_szHeadS.T m) (ih_6 : ∀ m, m < k → laws_szQuery.T m) (ih_15 : ∀ m, m < k → laws_szCompS.T m) (ih_28 : ∀ m, m < k → laws_szComp.T m) (ih_38 : ∀ m, m < k → laws_szHead.T m) : laws_szHeadS.T k := by
 intro A0 c0 l0 a1 r w hr0 hc0 h
 cases k with
 | zero => exact absurd h (by simp [laws_szHeadS.f])
 | succ k =>
 simp only [laws_szHeadS.f] at h
 have hu71 := Try.underlying71
 have HR0 := am hr0
 have HC0 := am hc0
 clear hr0 hc0
 have HB := am (Below.refl w.heap.size w)
 have H : (if (wrap64 (a1 - (l0.length : Int))) < 0 then (some (-1)) else (laws_szHeadS.l0 k l0 (wrap64 (a1 - (l0.length : Int))) 0)) = some r := h
 clear h
 by_cases c3 : (wrap64 (a1 - (l0.length : Int))) < 0
 ·rw [if_pos c3] at H
  have c3b0 : decide ((wrap64 (a1 - (l0.length : Int))) < 0) = true := decide_eq_true c3
  clear c3
  obtain rfl := Option.some.inj H
  go_enter Try.func53, Try.ntmps53
  go_wp2
  go_ret
  exact ⟨rfw, blw⟩
 rw [if_neg c3] at H
 have c3b0 : decide ((wrap64 (a1 - (l0.length : Int))) < 0) = false := decide_eq_false c3
 clear c3
 have H' := am H
 clear H
 go_enter Try.func53, Try.ntmps53
 go_wp2
 go_loopg [1, 5] k (fun kq v1 v5 w' => ∃ (x1_1 : Int) (x5_1 : Int), v1 = .int .i64 x1_1 ∧ v5 = .int .i64 x5_1 ∧ Aside0 (laws_szHeadS.l0 kq l0 x1_1 x5_1 = some r) ∧ Aside0 (kq ≤ k) ∧ Aside0 (Below w.heap.size w w'))
 case atStart => exact ⟨(wrap64 (a1 - (l0.length : Int))), (0), rfs, rfs, H', ⟨Nat.le_refl _⟩, ⟨blw⟩⟩
 case round =>
  clear H'
  (try clear p2); (try clear c3); (try clear c3b0)
  obtain ⟨x1_1, x5_1, rfl, rfl, HA, HK1, HB⟩ := hrel
  cases gk with
  | zero => exact absurd HA.out (by simp [laws_szHeadS.l0])
  | succ k1 =>
   have H := HA.out
   clear HA
   simp only [laws_szHeadS.l0] at H
   by_cases c4 : x5_1 < (l0.length : Int)
   case neg =>
    rw [if_neg c4] at H
    have c4b0 : decide (x5_1 < (l0.length : Int)) = false := decide_eq_false c4
    clear c4
    obtain rfl := Option.some.inj H
    go_wp2
    go_ret
    exact ⟨rfw, blw⟩
   rw [if_pos c4] at H
   have c4b0 : decide (x5_1 < (l0.length : Int)) = true := decide_eq_true c4
   clear c4
   by_cases c5 : 0 ≤ x5_1
   case neg =>
    rw [if_neg c5] at H
    exact absurd H (by simp)
   rw [if_pos c5] at H
   have c5b0 : decide (0 ≤ x5_1) = true := decide_eq_true c5
   clear c5
   replace H := Option.bind_eq_some_iff.mp H
   obtain ⟨t130, A60, H⟩ := H
   replace H : (if t130 < 0 then (some (-1)) else (laws_szHeadS.l0 k1 l0 t130 (wrap64 (x5_1 + 1)))) = some r := H
   have A6 := am A60
   clear A60
   have HC7 := am H
   clear H
   have p129 : 0 ≤ (x5_1 : Int) := of_decide_eq_true asw
   have q129 : x5_1 < (l0.length : Int) := of_decide_eq_true asw
   obtain ⟨ad129, A129_5, c129_5, A129_6, c129_6, A129_7, c129_7, A129_8, c129_8, A129_9, c129_9, A129_10, c129_10, A129_11, c129_11, e129, hx129_0, hx129_1, hx129_2, hx129_3, hx129_4, hx129_5, hx129_6, hx129_7, hx129_8, hx129_9, hx129_10, hx129_11, hl129_5, hi129_5, hl129_6, hi129_6, hl129_7, hi129_7, hl129_8, hi129_8, hl129_9, hi129_9, hl129_10, hi129_10, hl129_11, hi129_11⟩ := at_T71 HR0.out x5_1 p129 q129
   cases e129
   replace hx129_0 := upw HB.out hx129_0
   replace hx129_1 := upw HB.out hx129_1
   replace hx129_2 := upw HB.out hx129_2
   replace hx129_3 := upw HB.out hx129_3
   replace hx129_4 := upw HB.out hx129_4
   replace hx129_5 := upw HB.out hx129_5
   replace hx129_6 := upw HB.out hx129_6
   replace hx129_7 := upw HB.out hx129_7
   replace hx129_8 := upw HB.out hx129_8
   replace hx129_9 := upw HB.out hx129_9
   replace hx129_10 := upw HB.out hx129_10
   replace hx129_11 := upw HB.out hx129_11
   have HR129_5 := am hi129_5
   have HC129_5 := am hl129_5
   clear hi129_5 hl129_5
   have HR129_6 := am hi129_6
   have HC129_6 := am hl129_6
   clear hi129_6 hl129_6
   have HR129_7 := am hi129_7
   have HC129_7 := am hl129_7
   clear hi129_7 hl129_7
   have HR129_8 := am hi129_8
   have HC129_8 := am hl129_8
   clear hi129_8 hl129_8
   have HR129_9 := am hi129_9
   have HC129_9 := am hl129_9
   clear hi129_9 hl129_9
   have HR129_10 := am hi129_10
   have HC129_10 := am hl129_10
   clear hi129_10 hl129_10
   have HR129_11 := am hi129_11
   have HC129_11 := am hl129_11
   clear hi129_11 hl129_11
   replace p129 := eq_true p129
   replace q129 := eq_true q129
   go_upto_if 25 with (first | ((with_reducible refine gate_callee (f := 38) rfl ?_); refine goesL_ (some 23) rfl rfl Try.func38 kr rfl #[.agg #[.int .i64 ((rd_T71 l0 x5_1).f0), .int .i64 ((rd_T71 l0 x5_1).f1.f0), .string ((rd_T71 l0 x5_1).f1.f1), .int .i64 ((rd_T71 l0 x5_1).f1.f2), .int .i64 ((rd_T71 l0 x5_1).f1.f3.f0), .slice A129_5 ((rd_T71 l0 x5_1).f1.f3.f1).length c129_5, .slice A129_6 ((rd_T71 l0 x5_1).f1.f3.f2).length c129_6, .slice A129_7 ((rd_T71 l0 x5_1).f1.f4).length c129_7, .slice A129_8 ((rd_T71 l0 x5_1).f1.f5).length c129_8, .slice A129_9 ((rd_T71 l0 x5_1).f2).length c129_9, .slice A129_10 ((rd_T71 l0 x5_1).f3).length c129_10, .slice A129_11 ((rd_T71 l0 x5_1).f4.f0).length c129_11], .int .i64 x1_1] rfl mpw ?_; (with_reducible refine (ih_38 k1 (by have := HK1.out; omega) ((rd_T71 l0 x5_1).f0) ((rd_T71 l0 x5_1).f1.f0) ((rd_T71 l0 x5_1).f1.f1) ((rd_T71 l0 x5_1).f1.f2) ((rd_T71 l0 x5_1).f1.f3.f0) _ _ ((rd_T71 l0 x5_1).f1.f3.f1) _ _ ((rd_T71 l0 x5_1).f1.f3.f2) _ _ ((rd_T71 l0 x5_1).f1.f4) _ _ ((rd_T71 l0 x5_1).f1.f5) _ _ ((rd_T71 l0 x5_1).f2) _ _ ((rd_T71 l0 x5_1).f3) _ _ ((rd_T71 l0 x5_1).f4.f0) x1_1 t130 _ ?side1 ?side2 ?side3 ?side4 ?side5 ?side6 ?side7 ?side8 ?side9 ?side10 ?side11 ?side12 ?side13 ?side14 A6.out).mono ?_); (case side1 => have X_ := HR129_5; exact cbl); (case side2 => exact HC129_5.out); (case side3 => have X_ := HR129_6; exact cbl); (case side4 => exact HC129_6.out); (case side5 => have X_ := HR129_7; exact cbl); (case side6 => exact HC129_7.out); (case side7 => have X_ := HR129_8; exact cbl); (case side8 => exact HC129_8.out); (case side9 => have X_ := HR129_9; exact cbl); (case side10 => exact HC129_9.out); (case side11 => have X_ := HR129_10; exact cbl); (case side12 => exact HC129_10.out); (case side13 => have X_ := HR129_11; exact cbl); (case side14 => exact HC129_11.out); rintro e w8 ⟨rfl, hb⟩; refine ⟨_, rfl, ?_⟩; have n0_ := am (below_step blw hb); clear HB; revert n0_; intro HB; (try clear hb); (try clear hb2); (try clear hk); (try clear hi)))
   have H := HC7.out
   clear HC7
   by_cases c9 : t130 < 0
   ·rw [if_pos c9] at H
    have c9b0 : decide (t130 < 0) = true := decide_eq_true c9
    clear c9
    (first | rw [c9b0] | (simp only [i64_w, i32_w]; rw [c9b0]) | skip)
    obtain rfl := Option.some.inj H
    go_wp2
    go_ret
    exact ⟨rfw, blw⟩
   rw [if_neg c9] at H
   have c9b0 : decide (t130 < 0) = false := decide_eq_false c9
   clear c9
   (first | rw [c9b0] | (simp only [i64_w, i32_w]; rw [c9b0]) | skip)
   have H' := am H
   clear H
   go_wp2
   go_roundg k1
   case measure => have := HK1.out; omega
   case rel => exact ⟨(t130), (wrap64 (x5_1 + 1)), rfs, rfs, H', ⟨by have := HK1.out; omega⟩, ⟨blw⟩⟩

theorem laws_szQuery.all (k : Nat) : (laws_szQuery.T k) ∧ (laws_szCompS.T k) ∧ (laws_szComp.T k) ∧ (laws_szHead.T k) ∧ (laws_szHeadS.T k) := by
 induction k using Nat.strongRecOn with
 | _ k ih =>
 exact ⟨laws_szQuery.step k (fun m hm_ => (ih m hm_).1) (fun m hm_ => (ih m hm_).2.1) (fun m hm_ => (ih m hm_).2.2.1) (fun m hm_ => (ih m hm_).2.2.2.1) (fun m hm_ => (ih m hm_).2.2.2.2), laws_szCompS.step k (fun m hm_ => (ih m hm_).2.1) (fun m hm_ => (ih m hm_).1) (fun m hm_ => (ih m hm_).2.2.1) (fun m hm_ => (ih m hm_).2.2.2.1) (fun m hm_ => (ih m hm_).2.2.2.2), laws_szComp.step k (fun m hm_ => (ih m hm_).2.2.1) (fun m hm_ => (ih m hm_).1) (fun m hm_ => (ih m hm_).2.1) (fun m hm_ => (ih m hm_).2.2.2.1) (fun m hm_ => (ih m hm_).2.2.2.2), laws_szHead.step k (fun m hm_ => (ih m hm_).2.2.2.1) (fun m hm_ => (ih m hm_).1) (fun m hm_ => (ih m hm_).2.1) (fun m hm_ => (ih m hm_).2.2.1) (fun m hm_ => (ih m hm_).2.2.2.2), laws_szHeadS.step k (fun m hm_ => (ih m hm_).2.2.2.2) (fun m hm_ => (ih m hm_).1) (fun m hm_ => (ih m hm_).2.1) (fun m hm_ => (ih m hm_).2.2.1) (fun m hm_ => (ih m hm_).2.2.2.1)⟩

theorem laws_szQuery.calls (k : Nat) : ∀ (A0_0 : Option Addr) (c0_0 : Nat) (l0_0 : List (S73)) (a1 : Int) (r : Int) (w : World) (hr0_0 : Kd.C k73 w A0_0 l0_0.length l0_0) (hc0_0 : l0_0.length ≤ c0_0) (h : laws_szQuery.f k l0_0 a1 = some r),
  Calls Try.prog 6 #[.agg #[.slice A0_0 l0_0.length c0_0], .int .i64 a1] w fun e w' => e = .returned (.int .i64 r) ∧ Below w.heap.size w w' := (laws_szQuery.all k).1

end Go.Proofs.Ytpkppeicceehcaa.Px
