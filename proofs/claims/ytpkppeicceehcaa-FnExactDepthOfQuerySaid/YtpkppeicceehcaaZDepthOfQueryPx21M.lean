/- Printed by a program of this session: what functions of the translation come to, each contract as it stands. No condition. -/
import Derived.Test.YtpkppeicceehcaaZDepthOfQuerySh
import Derived.Test.YtpkppeicceehcaaZDepthOfQueryPx0
import Derived.Test.YtpkppeicceehcaaZDepthOfQueryPxFQueryDM
import Derived.Test.YtpkppeicceehcaaZDepthOfQueryPlM
import Derived.Test.YtpkppeicceehcaaZDepthOfQueryWLastM
import Derived.Deep.MidRow
section
namespace Go.Proofs.Ytpkppeicceehcaa.Px
open Go.RowKit Go.Proofs.Ytpkppeicceehcaa.Ext Go.Proofs.YtpkppeicceehcaaW.PrintWords Go.Proofs.YtpkppeicceehcaaW.PrintLast Go.Proofs.YtpkppeicceehcaaW.PrintMore
attribute [local go_sem] max2_int min2_int max_two min_two max_three min_three max_four min_four   -- for this text's walks alone
set_option linter.unusedVariables false
set_option linter.unusedSimpArgs false

/-! ### spec_DepthOfQuery: function 11 -/
mutual
def spec_DepthOfQuery.l0 : Nat → Int → Int → List (S49) → Option (Int)
 | 0, _, _, _ => none
 | k + 1, x3, x4, x551000 => if x4 < (x551000.length : Int) then (if 0 ≤ x4 then ((spec_l13Nested.f k ((rd_T49 x551000 x4).f2.f0) ((rd_T49 x551000 x4).f2.f1.f0) ((rd_T49 x551000 x4).f2.f1.f1) ((rd_T49 x551000 x4).f2.f1.f2) ((rd_T49 x551000 x4).f2.f1.f3.f0) ((rd_T49 x551000 x4).f2.f1.f3.f1) ((rd_T49 x551000 x4).f2.f1.f3.f2) ((rd_T49 x551000 x4).f2.f1.f4) ((rd_T49 x551000 x4).f2.f1.f5) ((rd_T49 x551000 x4).f2.f2) ((rd_T49 x551000 x4).f2.f3) ((rd_T49 x551000 x4).f2.f4.f0)).bind fun t552 => (spec_DepthOfQuery.l1 k x3 x4 t552 0 x551000)) else (none)) else (some (wrap64 (x3 + 1)))
def spec_DepthOfQuery.l1 : Nat → Int → Int → List (S29) → Int → List (S49) → Option (Int)
 | 0, _, _, _, _, _ => none
 | k + 1, x3, x4, x5, x6, x551000 => if x6 < (x5.length : Int) then (if 0 ≤ x6 then ((spec_DepthOfQuery.f k ((rd_T29 x5 x6).f0)).bind fun t556 => ((spec_l1Max.f x3 t556).bind fun t557 => (spec_DepthOfQuery.l1 k t557 x4 x5 (wrap64 (x6 + 1)) x551000))) else (none)) else (spec_DepthOfQuery.l0 k x3 (wrap64 (x4 + 1)) x551000)
def spec_DepthOfQuery.f : Nat → List (S49) → Option (Int)
 | 0, _ => none
 | k + 1, l0_0 => spec_DepthOfQuery.l0 k 0 0 l0_0
end
set_option maxHeartbeats 8000000 in
set_option maxRecDepth 100000 in
theorem spec_DepthOfQuery.calls (k : Nat) : ∀ (A0_0 : Option Addr) (c0_0 : Nat) (l0_0 : List (S49)) (r : Int) (w : World) (hr0_0 : Kd.C k49 w A0_0 l0_0.length l0_0) (hc0_0 : l0_0.length ≤ c0_0) (h : spec_DepthOfQuery.f k l0_0 = some r),
  Calls Try.prog 11 #[.agg #[.slice A0_0 l0_0.length c0_0]] w fun e w' => e = .returned (.int .i64 r) ∧ Below w.heap.size w w' := by
 induction k using Nat.strongRecOn with
 | _ k ih =>
 intro A0_0 c0_0 l0_0 r w hr0_0 hc0_0 h
 cases k with
 | zero => exact absurd h (by simp [spec_DepthOfQuery.f])
 | succ k =>
 simp only [spec_DepthOfQuery.f] at h
 have hu29 := Try.underlying29
 have hu47 := Try.underlying47
 have HR0_0 := am hr0_0
 have HC0_0 := am hc0_0
 clear hr0_0 hc0_0
 have HB := am (Below.refl w.heap.size w)
 have H : (spec_DepthOfQuery.l0 k 0 0 l0_0) = some r := h
 clear h
 have H' := am H
 clear H
 go_enter Try.func11, Try.ntmps11
 go_wp2_with (first | ((with_reducible refine gate_dst (N := 1) rfl ?_); refine box_event ?hg (N := 1) ?hd (cs := #[.slice A0_0 l0_0.length c0_0]) (t := 29) ?hr ?_; (case hd => rfl); (case hg => rfl); (case hr => exact hrw); intro gb550 hg w2 hbox hb; have n0_ := am (below_step blw hb); have n1_ := am (hbox); have n2_ := am ((by rw [hg]; exact (below_size blw) : w.heap.size ≤ gb550)); have n3_ := n2_; clear HB; revert n0_ n1_ n2_ n3_; intro HB BK550 GW550 GE550; clear hb hbox hg))
 go_loopg [3, 4] k (fun kq v3 v4 w' => ∃ (x3_1 : Int) (x4_1 : Int), v3 = .int .i64 x3_1 ∧ v4 = .int .i64 x4_1 ∧ Aside0 (spec_DepthOfQuery.l0 kq x3_1 x4_1 l0_0 = some r) ∧ Aside0 (kq ≤ k) ∧ Aside0 (w'.heap[gb550]? = some (.cells #[(.slice A0_0 l0_0.length c0_0)] 29 (0, 0))) ∧ Aside0 (Below w.heap.size w w'))
 case atStart => exact ⟨(0), (0), rfs, rfs, H', ⟨Nat.le_refl _⟩, ⟨bkw⟩, ⟨blw⟩⟩
 case round =>
  clear H'
  (try clear c1); (try clear p2)
  obtain ⟨x3_1, x4_1, rfl, rfl, HA, HK1, BK550, HB⟩ := hrel
  cases gk with
  | zero => exact absurd HA.out (by simp [spec_DepthOfQuery.l0])
  | succ k1 =>
   have H := HA.out
   clear HA
   simp only [spec_DepthOfQuery.l0] at H
   by_cases c3 : x4_1 < (l0_0.length : Int)
   case neg =>
    rw [if_neg c3] at H
    have c3b0 : decide (x4_1 < (l0_0.length : Int)) = false := decide_eq_false c3
    clear c3
    obtain rfl := Option.some.inj H
    have hcz15_0 : wr.cell? ⟨gb550, 0, none⟩ = some (.slice A0_0 l0_0.length c0_0) := (blk_cell BK550.out 0).trans rfl
    have hfz15_0 := blk_frozen BK550.out 0
    go_wp2
    go_ret
    exact ⟨rfw, blw⟩
   rw [if_pos c3] at H
   have c3b0 : decide (x4_1 < (l0_0.length : Int)) = true := decide_eq_true c3
   clear c3
   by_cases c4 : 0 ≤ x4_1
   case neg =>
    rw [if_neg c4] at H
    exact absurd H (by simp)
   rw [if_pos c4] at H
   have c4b0 : decide (0 ≤ x4_1) = true := decide_eq_true c4
   clear c4
   replace H := Option.bind_eq_some_iff.mp H
   obtain ⟨t552, A50, H⟩ := H
   replace H : (spec_DepthOfQuery.l1 k1 x3_1 x4_1 t552 0 l0_0) = some r := H
   have A5 := am A50
   clear A50
   have H' := am H
   clear H
   have hcz6_0 : wr.cell? ⟨gb550, 0, none⟩ = some (.slice A0_0 l0_0.length c0_0) := (blk_cell BK550.out 0).trans rfl
   have hfz6_0 := blk_frozen BK550.out 0
   have p551 : 0 ≤ (x4_1 : Int) := of_decide_eq_true asw
   have q551 : x4_1 < (l0_0.length : Int) := of_decide_eq_true asw
   obtain ⟨ad551, A551_0, c551_0, A551_5, c551_5, A551_6, c551_6, A551_7, c551_7, A551_8, c551_8, A551_14, c551_14, A551_15, c551_15, A551_16, c551_16, A551_17, c551_17, A551_18, c551_18, A551_19, c551_19, A551_20, c551_20, e551, hx551_0, hx551_1, hx551_2, hx551_3, hx551_4, hx551_5, hx551_6, hx551_7, hx551_8, hx551_9, hx551_10, hx551_11, hx551_12, hx551_13, hx551_14, hx551_15, hx551_16, hx551_17, hx551_18, hx551_19, hx551_20, hl551_0, hi551_0, hl551_5, hi551_5, hl551_6, hi551_6, hl551_7, hi551_7, hl551_8, hi551_8, hl551_14, hi551_14, hl551_15, hi551_15, hl551_16, hi551_16, hl551_17, hi551_17, hl551_18, hi551_18, hl551_19, hi551_19, hl551_20, hi551_20⟩ := at_T49 HR0_0.out x4_1 p551 q551
   cases e551
   replace hx551_0 := upw HB.out hx551_0
   replace hx551_1 := upw HB.out hx551_1
   replace hx551_2 := upw HB.out hx551_2
   replace hx551_3 := upw HB.out hx551_3
   replace hx551_4 := upw HB.out hx551_4
   replace hx551_5 := upw HB.out hx551_5
   replace hx551_6 := upw HB.out hx551_6
   replace hx551_7 := upw HB.out hx551_7
   replace hx551_8 := upw HB.out hx551_8
   replace hx551_9 := upw HB.out hx551_9
   replace hx551_10 := upw HB.out hx551_10
   replace hx551_11 := upw HB.out hx551_11
   replace hx551_12 := upw HB.out hx551_12
   replace hx551_13 := upw HB.out hx551_13
   replace hx551_14 := upw HB.out hx551_14
   replace hx551_15 := upw HB.out hx551_15
   replace hx551_16 := upw HB.out hx551_16
   replace hx551_17 := upw HB.out hx551_17
   replace hx551_18 := upw HB.out hx551_18
   replace hx551_19 := upw HB.out hx551_19
   replace hx551_20 := upw HB.out hx551_20
   have HR551_0 := am hi551_0
   have HC551_0 := am hl551_0
   clear hi551_0 hl551_0
   have HR551_5 := am hi551_5
   have HC551_5 := am hl551_5
   clear hi551_5 hl551_5
   have HR551_6 := am hi551_6
   have HC551_6 := am hl551_6
   clear hi551_6 hl551_6
   have HR551_7 := am hi551_7
   have HC551_7 := am hl551_7
   clear hi551_7 hl551_7
   have HR551_8 := am hi551_8
   have HC551_8 := am hl551_8
   clear hi551_8 hl551_8
   have HR551_14 := am hi551_14
   have HC551_14 := am hl551_14
   clear hi551_14 hl551_14
   have HR551_15 := am hi551_15
   have HC551_15 := am hl551_15
   clear hi551_15 hl551_15
   have HR551_16 := am hi551_16
   have HC551_16 := am hl551_16
   clear hi551_16 hl551_16
   have HR551_17 := am hi551_17
   have HC551_17 := am hl551_17
   clear hi551_17 hl551_17
   have HR551_18 := am hi551_18
   have HC551_18 := am hl551_18
   clear hi551_18 hl551_18
   have HR551_19 := am hi551_19
   have HC551_19 := am hl551_19
   clear hi551_19 hl551_19
   have HR551_20 := am hi551_20
   have HC551_20 := am hl551_20
   clear hi551_20 hl551_20
   replace p551 := eq_true p551
   replace q551 := eq_true q551
   go_wp2_with (first | ((with_reducible refine gate_callee (f := 16) rfl ?_); refine goesL_ (some 20) rfl rfl Try.func16 kr rfl #[.agg #[.int .i64 ((rd_T49 l0_0 x4_1).f2.f0), .int .i64 ((rd_T49 l0_0 x4_1).f2.f1.f0), .string ((rd_T49 l0_0 x4_1).f2.f1.f1), .int .i64 ((rd_T49 l0_0 x4_1).f2.f1.f2), .int .i64 ((rd_T49 l0_0 x4_1).f2.f1.f3.f0), .slice A551_14 ((rd_T49 l0_0 x4_1).f2.f1.f3.f1).length c551_14, .slice A551_15 ((rd_T49 l0_0 x4_1).f2.f1.f3.f2).length c551_15, .slice A551_16 ((rd_T49 l0_0 x4_1).f2.f1.f4).length c551_16, .slice A551_17 ((rd_T49 l0_0 x4_1).f2.f1.f5).length c551_17, .slice A551_18 ((rd_T49 l0_0 x4_1).f2.f2).length c551_18, .slice A551_19 ((rd_T49 l0_0 x4_1).f2.f3).length c551_19, .slice A551_20 ((rd_T49 l0_0 x4_1).f2.f4.f0).length c551_20]] rfl mpw ?_; (with_reducible refine (spec_l13Nested.calls k1 ((rd_T49 l0_0 x4_1).f2.f0) ((rd_T49 l0_0 x4_1).f2.f1.f0) ((rd_T49 l0_0 x4_1).f2.f1.f1) ((rd_T49 l0_0 x4_1).f2.f1.f2) ((rd_T49 l0_0 x4_1).f2.f1.f3.f0) _ _ ((rd_T49 l0_0 x4_1).f2.f1.f3.f1) _ _ ((rd_T49 l0_0 x4_1).f2.f1.f3.f2) _ _ ((rd_T49 l0_0 x4_1).f2.f1.f4) _ _ ((rd_T49 l0_0 x4_1).f2.f1.f5) _ _ ((rd_T49 l0_0 x4_1).f2.f2) (fun k_ => k_ < w.heap.size) _ _ ((rd_T49 l0_0 x4_1).f2.f3) (fun k_ => k_ < w.heap.size) _ _ ((rd_T49 l0_0 x4_1).f2.f4.f0) t552 _ ?side1 ?side2 ?side3 ?side4 ?side5 ?side6 ?side7 ?side8 ?side9 ?side10 ?side11 ?side12 A5.out).mono ?_); (case side1 => have X_ := HR551_14; exact cbl); (case side2 => exact HC551_14.out); (case side3 => have X_ := HR551_15; exact cbl); (case side4 => exact HC551_15.out); (case side5 => have X_ := HR551_16; exact cbl); (case side6 => exact HC551_16.out); (case side7 => have X_ := HR551_17; exact cbl); (case side8 => exact HC551_17.out); (case side9 => have X_ := HR551_18; exact cbl); (case side10 => exact HC551_18.out); (case side11 => exact Kd.V_mk HC551_19.out (Kd.F_below (Kd.C_F k47_heap HR551_19.out) blw)); (case side12 => exact Kd.V_mk HC551_20.out (Kd.F_below (Kd.C_F k49_heap HR551_20.out) blw)); rintro e w7 ⟨v553, rfl, ho0, hb⟩; refine ⟨_, rfl, ?_⟩; have n0_ := am (Kd.N_lower (Kd.N_mono (ok' := fun k_ => k_ ≠ gb550) ho0 (fun k_ hk_ => Or.elim hk_ (fun hs_ => Or.elim hs_ (fun hs_ => fun e_ => Nat.not_le.2 hs_ (by rw [e_]; exact GW550.out)) (fun hs_ => fun e_ => Nat.not_le.2 hs_ (by rw [e_]; exact GW550.out))) (fun hn_ => (Kd.freshB (g := gb550) (o := .cells #[.slice (some ad551) l0_0.length c0_0] 29 (0, 0)) bkw k_ hn_)))) (below_size blw)); have n1_ := am (blk_below (g := gb550) bkw hb); have n2_ := am (below_step blw hb); clear BK550; clear HB; revert n0_ n1_ n2_; intro HO554 BK550 HB; (try clear hb); (try clear hb2); (try clear hk); (try clear hi); (try clear ho0)))
   go_loopg [3, 6] k1 (fun kq v3 v6 w' => ∃ (x3_2 : Int) (x6_2 : Int), v3 = .int .i64 x3_2 ∧ v6 = .int .i64 x6_2 ∧ Aside0 (spec_DepthOfQuery.l1 kq x3_2 x4_1 t552 x6_2 l0_0 = some r) ∧ Aside0 (kq ≤ k1) ∧ Aside0 (Kd.N k29 29 w' w.heap.size (fun k_ => k_ ≠ gb550) v553 t552) ∧ Aside0 (w'.heap[gb550]? = some (.cells #[(.slice (some ad551) l0_0.length c0_0)] 29 (0, 0))) ∧ Aside0 (Below w.heap.size w w'))
   case atStart => exact ⟨(x3_1), (0), rfs, rfs, H', ⟨Nat.le_refl _⟩, ⟨by (with_reducible repeat (first | apply Kd.N_alloc | apply Kd.N_drewN | apply Kd.N_drew)); exact HO554.out⟩, ⟨bkw⟩, ⟨blw⟩⟩
   case round =>
    clear H'
    (try clear c1); (try clear p2 p2); (try clear c3); (try clear c3b0); (try clear c4); (try clear c4b0); (try clear c5); (try clear p5); (try clear q5); (try clear hx5); (try clear hcz6_0); (try clear hfz6_0); (try clear hx551_0 hx551_1 hx551_10 hx551_11 hx551_12 hx551_13 hx551_14 hx551_15 hx551_16 hx551_17 hx551_18 hx551_19 hx551_2 hx551_20 hx551_3 hx551_4 hx551_5 hx551_6 hx551_7 hx551_8 hx551_9); (try clear p551); (try clear q551)
    obtain ⟨x3_2, x6_2, rfl, rfl, HA, HK2, HO_5, BK550, HB⟩ := hrel
    cases gk with
    | zero => exact absurd HA.out (by simp [spec_DepthOfQuery.l1])
    | succ k2 =>
     have H := HA.out
     clear HA
     simp only [spec_DepthOfQuery.l1] at H
     by_cases c8 : x6_2 < (t552.length : Int)
     case neg =>
      rw [if_neg c8] at H
      have c8b0 : decide (x6_2 < (t552.length : Int)) = false := decide_eq_false c8
      clear c8
      have H' := am H
      clear H
      obtain ⟨Ao14, co14, eo14⟩ := Kd.N_slice HO_5.out
      subst eo14
      go_wp2
      go_roundg k2
      case measure => have := HK1.out; have := HK2.out; omega
      case rel => exact ⟨(x3_2), (wrap64 (x4_1 + 1)), rfs, rfs, H', ⟨by have := HK1.out; have := HK2.out; omega⟩, ⟨bkw⟩, ⟨blw⟩⟩
     rw [if_pos c8] at H
     have c8b0 : decide (x6_2 < (t552.length : Int)) = true := decide_eq_true c8
     clear c8
     by_cases c9 : 0 ≤ x6_2
     case neg =>
      rw [if_neg c9] at H
      exact absurd H (by simp)
     rw [if_pos c9] at H
     have c9b0 : decide (0 ≤ x6_2) = true := decide_eq_true c9
     clear c9
     replace H := Option.bind_eq_some_iff.mp H
     obtain ⟨t556, A100, H⟩ := H
     replace H : ((spec_l1Max.f x3_2 t556).bind fun t557 => (spec_DepthOfQuery.l1 k2 t557 x4_1 t552 (wrap64 (x6_2 + 1)) l0_0)) = some r := H
     have A10 := am A100
     clear A100
     replace H := Option.bind_eq_some_iff.mp H
     obtain ⟨t557, A110, H⟩ := H
     replace H : (spec_DepthOfQuery.l1 k2 t557 x4_1 t552 (wrap64 (x6_2 + 1)) l0_0) = some r := H
     have A11 := am A110
     clear A110
     have H' := am H
     clear H
     obtain ⟨Ao12, co12, eo12⟩ := Kd.N_slice HO_5.out
     subst eo12
     have p555 : 0 ≤ (x6_2 : Int) := of_decide_eq_true asw
     have q555 : x6_2 < (t552.length : Int) := of_decide_eq_true asw
     obtain ⟨ad555, A555_0, c555_0, e555, hx555_0, hl555_0, hi555_0⟩ := at_T29 (Kd.N_reads' HO_5.out).2.2 x6_2 p555 q555
     cases e555
     obtain ⟨ce555, hce555, hMe555, hcc555⟩ := Kd.N_get HO_5.out z29 x6_2 p555 (by first | exact q555 | exact of_decide_eq_true asw | (have e_ := (Kd.N_reads' HO_5.out).1; omega))
     obtain ⟨ua555_0, uc555_0, rfl, ul555_0, ge555_0⟩ := k29_openF hMe555
     have hv555_0 := hcc555 0 _ rfl
     rw [Nat.add_zero, show (k29).sz = 1 from rfl, Nat.mul_one] at hv555_0
     replace hv555_0 := Option.some.inj (hv555_0.symm.trans hx555_0)
     injection hv555_0 with hva_ hvn_ hvc_
     rw [hva_] at ge555_0
     rw [hvc_] at ul555_0
     have HL555_0 := am (show Kd.V k49 49 _ w.heap.size _ _ ((rd_T29 t552 x6_2).f0) from Kd.V_mk ul555_0 ge555_0)
     clear hva_ hvn_ hvc_ ge555_0 ul555_0
     clear hcc555 hce555
     have HR555_0 := am hi555_0
     have HC555_0 := am hl555_0
     clear hi555_0 hl555_0
     replace p555 := eq_true p555
     replace q555 := eq_true q555
     go_wp2_with (first | ((with_reducible refine gate_callee (f := 11) rfl ?_); refine goesL_ (some 32) rfl rfl Try.func11 kr rfl #[.agg #[.slice A555_0 ((rd_T29 t552 x6_2).f0).length c555_0]] rfl mpw ?_; (with_reducible refine (ih k2 (by have := HK1.out; have := HK2.out; omega) _ _ ((rd_T29 t552 x6_2).f0) t556 _ ?side1 ?side2 A10.out).mono ?_); (case side1 => repeat (first | exact (by repeat (first | (with_reducible exact HR555_0.out) | (with_reducible refine Kd.C_alloc ?_ _) | (with_reducible refine Kd.C_drewN ?_ _) | (with_reducible refine Kd.C_drew ?_) | exact HR555_0.out)) | (with_reducible refine Kd.C_alloc ?_ _) | (with_reducible refine Kd.C_drewN ?_ _) | (with_reducible refine Kd.C_drew ?_))); (case side2 => exact HC555_0.out); rintro e w13 ⟨rfl, hb⟩; refine ⟨_, rfl, ?_⟩; have n0_ := am (Kd.N_below (by (with_reducible repeat (first | apply Kd.N_alloc | apply Kd.N_drewN | apply Kd.N_drew)); exact HO_5.out) hb); have n1_ := am (Kd.V_below (by (with_reducible repeat (first | apply Kd.V_alloc | apply Kd.V_drewN | apply Kd.V_drew)); exact HL555_0.out) hb); have n2_ := am (blk_below (g := gb550) bkw hb); have n3_ := am (Kd.C_below (by repeat (first | (with_reducible exact HR555_0.out) | (with_reducible refine Kd.C_alloc ?_ _) | (with_reducible refine Kd.C_drewN ?_ _) | (with_reducible refine Kd.C_drew ?_) | exact HR555_0.out)) hb); have n4_ := am (below_step blw hb); clear HO_5; clear HL555_0; clear BK550; clear HR555_0; clear HB; revert n0_ n1_ n2_ n3_ n4_; intro HO_5 HL555_0 BK550 HR555_0 HB; (try clear hb); (try clear hb2); (try clear hk); (try clear hi)) | ((with_reducible refine gate_callee (f := 21) rfl ?_); refine goesL_ (some 33) rfl rfl Try.func21 kr rfl #[.int .i64 x3_2, .int .i64 t556] rfl mpw ?_; (with_reducible refine (spec_l1Max.calls x3_2 t556 t557 _ A11.out).mono ?_); rintro e w' ⟨rfl, ⟨nd, rfl⟩⟩; refine ⟨_, rfl, ?_⟩))
     go_roundg k2
     case measure => have := HK1.out; have := HK2.out; omega
     case rel => exact ⟨(t557), (wrap64 (x6_2 + 1)), rfs, rfs, H', ⟨by have := HK1.out; have := HK2.out; omega⟩, ⟨by (with_reducible repeat (first | apply Kd.N_alloc | apply Kd.N_drewN | apply Kd.N_drew)); exact HO_5.out⟩, ⟨bkw⟩, ⟨blw⟩⟩

-- NOT PRINTED: function 12 (impl_DepthOfQuery)

-- NOT PRINTED: function 4 (laws_FnExactDepthOfQuery)

end Go.Proofs.Ytpkppeicceehcaa.Px
end
section
namespace Go.Proofs.Ytpkppeicceehcaa.Px
open Go.RowKit Go.Proofs.YtpkppeicceehcaaW.PrintWords Go.Proofs.YtpkppeicceehcaaW.PrintLast Go.Proofs.Ytpkppeicceehcaa.Pl Go.Proofs.Ytpkppeicceehcaa.Ext
set_option linter.unusedVariables false
set_option linter.unusedSimpArgs false
mutual
def lstDqH : S47 → List S29
  | ⟨a, _, _, ps, q⟩ => if a = 3 then [q] else lstDqP ps
def lstDqP : List S47 → List S29
  | [] => []
  | x :: r => lstDqH x ++ lstDqP r
end
theorem lstDqH_eq (x : S47) : lstDqH x = if x.f0 = 3 then [x.f4] else lstDqP x.f3 := by
  obtain ⟨_, _, _, _, _⟩ := x
  simp only [lstDqH]
def jnDq (n : Nat) (q : S29) : Nat := max n (qvDq q.f0)
theorem jnDq_mono : ∀ (l : List S29) (n : Nat), n ≤ l.foldl jnDq n
  | [], n => Nat.le_refl _
  | x :: r, n => by
    rw [List.foldl_cons]
    have h := jnDq_mono r (jnDq n x)
    have h2 : n ≤ jnDq n x := by unfold jnDq; omega
    omega
theorem acDqP_fold : ∀ (xs : List S47), (∀ x ∈ xs, ∀ n, acDqH x n = (lstDqH x).foldl jnDq n) → ∀ n, acDqP xs n = (lstDqP xs).foldl jnDq n
  | [], _, n => by simp [acDqP, lstDqP]
  | x :: r, h, n => by
    rw [acDqP, lstDqP, List.foldl_append, ← h x (List.mem_cons_self ..) n]
    exact acDqP_fold r (fun y hy => h y (List.mem_cons_of_mem _ hy)) _
theorem acDqH_fold : ∀ (x : S47) (n : Nat), acDqH x n = (lstDqH x).foldl jnDq n := by
  refine indHeadI fun x ih _ n => ?_
  rw [acDqH_eq, lstDqH_eq]
  by_cases h : x.f0 = 3
  · rw [if_pos h, if_pos h]
    simp [jnDq]
  · rw [if_neg h, if_neg h]
    exact acDqP_fold x.f3 ih n
theorem lstDqP_len : ∀ (xs : List S47), (∀ x ∈ xs, (lstDqH x).length ≤ ndDqH x) → (lstDqP xs).length ≤ ndDqP xs
  | [], _ => by simp [lstDqP]
  | x :: r, h => by
    have h1 := h x (List.mem_cons_self ..)
    have h2 := lstDqP_len r (fun y hy => h y (List.mem_cons_of_mem _ hy))
    rw [lstDqP, ndDqP, List.length_append]
    omega
theorem lstDqH_len : ∀ (x : S47), (lstDqH x).length ≤ ndDqH x := by
  refine indHeadI fun x ih _ => ?_
  rw [lstDqH_eq, ndDqH_eq]
  by_cases h : x.f0 = 3
  · rw [if_pos h]
    simp only [List.length_cons, List.length_nil]
    omega
  · rw [if_neg h]
    have := lstDqP_len x.f3 ih
    omega
theorem nestedDq_ev : ∀ x : S47, SmHead x → ndDqH x ≤ 1099511627776 → Ev (fun k => spec_l13Nested.f k x.f0 x.f1.f0 x.f1.f1 x.f1.f2 x.f1.f3.f0 x.f1.f3.f1 x.f1.f3.f2 x.f1.f4 x.f1.f5 x.f2 x.f3 x.f4.f0) (lstDqH x) := by
  refine indHeadI fun x ih _ hs hn => ?_
  have he := ndDqH_eq x
  rw [lstDqH_eq]
  refine Ev.up ?_
  simp only [spec_l13Nested.f]
  refine Ev.bind (Ev.const (r := ([] : List S29)) rfl) ?_
  by_cases h : x.f0 = 3
  · rw [if_pos h]
    exact Ev.pos h (Ev.pos (by decide) (Ev.const rfl))
  · rw [if_neg h]
    refine Ev.neg h ?_
    have lp : ∀ i : Nat, ∀ acc : List S29, i ≤ x.f3.length → acc.length + ndDqP (x.f3.drop i) ≤ 1099511627776 → Ev (fun k => spec_l13Nested.l0 k acc (i : Int) x.f0 x.f1.f0 x.f1.f1 x.f1.f2 x.f1.f3.f0 x.f1.f3.f1 x.f1.f3.f2 x.f1.f4 x.f1.f5 x.f2 x.f3 x.f4.f0) (acc ++ lstDqP (x.f3.drop i)) := by
      intro i
      obtain ⟨d, hd⟩ : ∃ d, d = x.f3.length - i := ⟨_, rfl⟩
      induction d generalizing i with
      | zero =>
        intro acc hi hb
        refine Ev.up ?_
        simp only [spec_l13Nested.l0]
        refine Ev.neg (by omega) (Ev.const ?_)
        rw [List.drop_of_length_le (by omega)]
        simp [lstDqP]
      | succ d ihd =>
        intro acc hi hb
        have hlt : i < x.f3.length := by omega
        have hmem := mem_getD x.f3 z47 i hlt
        have hdr : x.f3.drop i = x.f3.getD i z47 :: x.f3.drop (i + 1) := dropDqH x.f3 i hlt
        have hlen := lstDqH_len (x.f3.getD i z47)
        have hb2 := hb
        rw [hdr, ndDqP] at hb2
        refine Ev.up ?_
        simp only [spec_l13Nested.l0, w1' hlt hs.p3.1]
        refine Ev.pos (by omega) (Ev.pos (by omega) ?_)
        refine Ev.bind (ih (x.f3.getD i z47) hmem (hs.p3.2 _ hmem) (by omega)) (Ev.pos (by omega) ?_)
        refine Ev.eq (ihd (i + 1) (by omega) _ (by omega) (by rw [List.length_append]; omega)) ?_
        rw [hdr, lstDqP, List.append_assoc]
    exact Ev.eq (lp 0 [] (by omega) (by rw [List.drop_zero]; simp; omega)) (by simp)
theorem sm_lstDqP : ∀ (xs : List S47), (∀ x ∈ xs, ∀ q ∈ lstDqH x, SmQuery q ∧ (1 + q.f0.length + ndDqC q.f0 ≤ ndDqH x) ∧ SizeOf.sizeOf q < SizeOf.sizeOf x) → ∀ q ∈ lstDqP xs, SmQuery q ∧ (1 + q.f0.length + ndDqC q.f0 ≤ ndDqP xs) ∧ SizeOf.sizeOf q < SizeOf.sizeOf xs
  | [], _, q, hq => by simp [lstDqP] at hq
  | x :: r, h, q, hq => by
    rw [lstDqP] at hq
    rcases List.mem_append.1 hq with hq | hq
    · obtain ⟨h1, h2, h3⟩ := h x (List.mem_cons_self ..) q hq
      exact ⟨h1, by rw [ndDqP]; omega, by simp; omega⟩
    · obtain ⟨h1, h2, h3⟩ := sm_lstDqP r (fun y hy => h y (List.mem_cons_of_mem _ hy)) q hq
      exact ⟨h1, by rw [ndDqP]; omega, by simp; omega⟩
theorem sm_lstDqH : ∀ (x : S47), SmHead x → ∀ q ∈ lstDqH x, SmQuery q ∧ (1 + q.f0.length + ndDqC q.f0 ≤ ndDqH x) ∧ SizeOf.sizeOf q < SizeOf.sizeOf x := by
  refine indHeadI fun x ih _ hs q hq => ?_
  rw [lstDqH_eq] at hq
  have he := ndDqH_eq x
  by_cases h : x.f0 = 3
  · rw [if_pos h] at hq
    obtain rfl := List.mem_singleton.1 hq
    exact ⟨hs.p4, by omega, by obtain ⟨_, _, _, _, _⟩ := x; simp; omega⟩
  · rw [if_neg h] at hq
    obtain ⟨h1, h2, h3⟩ := sm_lstDqP x.f3 (fun y hy => ih y hy (hs.p3.2 y hy)) q hq
    exact ⟨h1, by omega, by obtain ⟨_, _, _, _, _⟩ := x; simp at h3 ⊢; omega⟩
theorem DepthOfQuery_ev : ∀ (N : Nat) (cs : List S49), SizeOf.sizeOf cs ≤ N → SmQuery ⟨cs⟩ → 1 + cs.length + ndDqC cs ≤ 1099511627776 → Ev (fun k => spec_DepthOfQuery.f k cs) ((qvDq cs : Nat) : Int) := by
  intro N
  induction N with
  | zero => intro cs h0; exfalso; cases cs <;> simp at h0
  | succ N IH =>
  intro cs hN hs hn
  refine Ev.up ?_
  simp only [spec_DepthOfQuery.f]
  have lp : ∀ i : Nat, ∀ m : Nat, i ≤ cs.length → m + ndDqC (cs.drop i) ≤ 1099511627776 → Ev (fun k => spec_DepthOfQuery.l0 k (m : Int) (i : Int) cs) (((acDqC (cs.drop i) m) + 1 : Nat) : Int) := by
    intro i
    obtain ⟨d, hd⟩ : ∃ d, d = cs.length - i := ⟨_, rfl⟩
    induction d generalizing i with
    | zero =>
      intro m hi hb
      refine Ev.up ?_
      simp only [spec_DepthOfQuery.l0]
      refine Ev.neg (by omega) (Ev.const ?_)
      rw [List.drop_of_length_le (by omega)]
      simp only [acDqC]
      unfold wrap64; omega
    | succ d ihd =>
      intro m hi hb
      have hlt : i < cs.length := by omega
      have hmem := mem_getD cs z49 i hlt
      have hdr : cs.drop i = cs.getD i z49 :: cs.drop (i + 1) := dropDqC cs i hlt
      have hb2 := hb
      rw [hdr, ndDqC_cons] at hb2
      have hsz : SizeOf.sizeOf (cs.getD i z49) < SizeOf.sizeOf cs := List.sizeOf_lt_of_mem hmem
      have hsz2 : SizeOf.sizeOf (cs.getD i z49).f2 < SizeOf.sizeOf (cs.getD i z49) := by generalize cs.getD i z49 = c; obtain ⟨_, _, _⟩ := c; simp <;> omega
      have hsm := (hs.2 _ hmem).2.2
      refine Ev.up ?_
      simp only [spec_DepthOfQuery.l0]
      refine Ev.pos (by omega) (Ev.pos (by omega) ?_)
      refine Ev.bind (nestedDq_ev (cs.getD i z49).f2 hsm (by omega)) ?_
      have hq := sm_lstDqH (cs.getD i z49).f2 hsm
      have hll := lstDqH_len (cs.getD i z49).f2
      have hfo := acDqH_fold (cs.getD i z49).f2 m
      have hle := acDqH_le (cs.getD i z49).f2 m
      rw [show (acDqC (cs.drop i) m) + 1 = (acDqC (cs.drop (i + 1)) (acDqH (cs.getD i z49).f2 m)) + 1 by rw [hdr, acDqC_cons]]
      rw [hfo] at hle ⊢
      generalize lstDqH (cs.getD i z49).f2 = L at hq hll hfo hle ⊢
      have lp2 : ∀ j : Nat, ∀ u : Nat, j ≤ L.length → (L.drop j).foldl jnDq u + ndDqC (cs.drop (i + 1)) ≤ 1099511627776 → Ev (fun k => spec_DepthOfQuery.l1 k (u : Int) (i : Int) L (j : Int) cs) (((acDqC (cs.drop (i + 1)) ((L.drop j).foldl jnDq u)) + 1 : Nat) : Int) := by
        intro j
        obtain ⟨e, he⟩ : ∃ e, e = L.length - j := ⟨_, rfl⟩
        induction e generalizing j with
        | zero =>
          intro u hj hb3
          have hdz : L.drop j = [] := List.drop_of_length_le (by omega)
          rw [hdz, List.foldl_nil] at hb3
          rw [hdz, List.foldl_nil]
          refine Ev.up ?_
          simp only [spec_DepthOfQuery.l1, w1' hlt hs.1]
          exact Ev.neg (by omega) (ihd (i + 1) (by omega) u (by omega) hb3)
        | succ e ihe =>
          intro u hj hb3
          have hlt2 : j < L.length := by omega
          have hmq : L.getD j z29 ∈ L := mem_getD L z29 j hlt2
          have hdl : L.drop j = L.getD j z29 :: L.drop (j + 1) := by
            rw [List.drop_eq_getElem_cons hlt2]
            congr 1
            simp [List.getD_eq_getElem?_getD, hlt2]
          obtain ⟨q1, q2, q3⟩ := hq _ hmq
          rw [hdl, List.foldl_cons] at hb3
          have hmono : jnDq u (L.getD j z29) ≤ (L.drop (j + 1)).foldl jnDq (jnDq u (L.getD j z29)) := jnDq_mono _ _
          refine Ev.up ?_
          simp only [spec_DepthOfQuery.l1]
          refine Ev.pos (by omega) (Ev.pos (by omega) ?_)
          have hsq : SizeOf.sizeOf (L.getD j z29).f0 < SizeOf.sizeOf (L.getD j z29) := by generalize L.getD j z29 = c; obtain ⟨_⟩ := c; simp <;> omega
          refine Ev.bind (IH (L.getD j z29).f0 (show SizeOf.sizeOf (L.getD j z29).f0 ≤ N by omega) q1 (by omega)) ?_
          refine Ev.bind (a := ((jnDq u (L.getD j z29) : Nat) : Int)) ?_ ?_
          · simp only [spec_l1Max.f]
            unfold jnDq
            by_cases hgt : ((u : Nat) : Int) > ((qvDq (L.getD j z29).f0 : Nat) : Int)
            · exact Ev.pos hgt (Ev.const (by omega))
            · exact Ev.neg hgt (Ev.const (by omega))
          rw [show wrap64 ((j : Int) + 1) = ((j + 1 : Nat) : Int) from w1 hlt2 (by unfold maxLen; omega)]
          refine Ev.eq (ihe (j + 1) (by omega) (jnDq u (L.getD j z29)) (by omega) hb3) ?_
          rw [hdl, List.foldl_cons]
      refine Ev.eq (lp2 0 m (by omega) (by rw [List.drop_zero]; omega)) (by rw [List.drop_zero])
  exact Ev.eq (lp 0 0 (by omega) (by rw [List.drop_zero]; omega)) (by rw [List.drop_zero]; rfl)

end Go.Proofs.Ytpkppeicceehcaa.Px
end
section
namespace Go.Proofs.Ytpkppeicceehcaa.Px
open Go.RowKit Go.Proofs.YtpkppeicceehcaaW.PrintWords Go.Proofs.YtpkppeicceehcaaW.PrintLast Go.Proofs.Ytpkppeicceehcaa.Pl Go.Proofs.Ytpkppeicceehcaa.Ext
set_option linter.unusedVariables false
set_option linter.unusedSimpArgs false
open Classical in
noncomputable def impl_DepthOfQuery.f (_k : Nat) (l0_0 : List (S49)) : Option (Int) :=
  if SmQuery ⟨l0_0⟩ ∧ 1 + l0_0.length + ndDqC l0_0 ≤ 1099511627776 then some ((qvDq l0_0 : Nat) : Int) else none
theorem impl_DepthOfQuery.calls (k : Nat) (A0_0 : Option Addr) (c0_0 : Nat) (l0_0 : List (S49)) (r : Int) (w : World) (hr0_0 : Kd.C k49 w A0_0 l0_0.length l0_0) (hc0_0 : l0_0.length ≤ c0_0) (h : impl_DepthOfQuery.f k l0_0 = some r) :
    Calls Try.prog 12 #[.agg #[.slice A0_0 l0_0.length c0_0]] w fun e w' => e = .returned (.int .i64 r) ∧ Below w.heap.size w w' := by
  unfold impl_DepthOfQuery.f at h
  by_cases hc : SmQuery ⟨l0_0⟩ ∧ 1 + l0_0.length + ndDqC l0_0 ≤ 1099511627776
  · rw [if_pos hc] at h
    obtain rfl := Option.some.inj h
    exact topDq_go l0_0 hc.1 hc.2 A0_0 c0_0 w hr0_0 hc0_0
  · rw [if_neg hc] at h
    cases h

end Go.Proofs.Ytpkppeicceehcaa.Px
end
section
namespace Go.Proofs.Ytpkppeicceehcaa.Ext
open Go.RowKit Go.Proofs.YtpkppeicceehcaaW.PrintWords
set_option linter.unusedVariables false
theorem Cells_adds {w : World} {a : Addr} {cs : List Value} (h : Cells w a cs) (j : Nat) (v : Value) (e : cs[j]? = some v) : w.cell? (a.add j) = some v := by
  cases j with
  | zero =>
    rw [Addr.add_zero']
    cases cs with
    | nil => simp at e
    | cons c cs =>
      have e2 := Option.some.inj e
      subst e2
      exact h.1
  | succ j =>
    rw [Addr.add_succ']
    exact Cells_get h (j + 1) (Nat.succ_pos j) e
theorem run_loadVar_wide {P : Program} {w : World} {A : Addr} {cs : List Value} (h : Cells w A cs) (ty : TypeId) {d : TypeDesc} (hu : P.underlying ty = some d) (hd : d.isRow = true) (hi : (P.info? ty).map (·.size) = some cs.length) :
    (loadVar ty A).run P w = .ok (.agg cs.toArray) w := by
  have hl : (loadCells A cs.length).run P w = .ok cs.toArray w := run_loadCells_list (P := P) w A cs (fun j v hv => Cells_adds h j v hv)
  cases hq : P.info? ty with
  | none => simp [hq] at hi
  | some i =>
    have hs : i.size = cs.length := by simpa [hq] using hi
    have hagg : (isAgg ty).run P w = .ok true w := by
      unfold isAgg
      rw [Sem.run_bind, run_underlying hu w]
      cases d <;> simp_all
    simp [loadVar, Sem.run_bind, hagg, sizeOf, typeInfo, hq, hs, hl]
theorem wide_load {P : Program} {ops : Array Oper} {Q : Exit → Act → World → Prop} {rest : List Oper} {op : Oper} {a : Act} {w : World} {N : Tmp} (hg : op.guard = none) (hN : op.dst = some N) {ty : TypeId} {x : Operand} (ho : op.op = .load ty x) {A : Addr} {cs : List Value} (hc : Cells w A cs) (hx : a.eval x = .pointer (some A)) {d : TypeDesc} (hu : P.underlying ty = some d) (hd : d.isRow = true) (hi : (P.info? ty).map (·.size) = some cs.length)
    (h : wpList P ops Q rest (a.put (some N) (.agg cs.toArray)) w) : wpList P ops Q (op :: rest) a w := by
  refine wpList_plain hg fun K hK => ?_
  unfold Oper.wp execOp
  simp only [ho, hx, Instr.loadAt, Instr.sureAddr, Sem.run_bind, Sem.run_pure, Result.andThen_ok, run_loadVar_wide hc ty hu hd hi]
  show K (a.put op.dst _) w
  rw [hN]
  exact hK _ _ h
theorem there_nil {w : World} {b o : Nat} : w.there b o 0 := fun j hj => absurd hj (Nat.not_lt_zero j)
theorem there_c {w : World} {b o n : Nat} {v : Value} (hx : w.cell? ⟨b, o, none⟩ = some v) (hf : w.frozen? ⟨b, o, none⟩ = false) (h : w.there b (o + 1) n) : w.there b o (n + 1) := fun j hj => by
  cases j with
  | zero => exact ⟨by simp [hx], by simpa using hf⟩
  | succ j =>
    have := h j (by omega)
    rwa [Nat.add_assoc, Nat.add_comm 1 j] at this
theorem there_blk {w : World} {g t : Nat} {arr : Array Value} (h : w.heap[g]? = some (.cells arr t (0, 0))) : w.there g 0 arr.size := fun j hj => by
  refine ⟨?_, ?_⟩
  · rw [Nat.zero_add, blk_cell h j]
    simp [hj]
  · exact blk_frozen h (0 + j)
theorem wide_run {P : Program} {a : Act} {w : World} {op : Oper} {ty : TypeId} {x y : Operand} (ho : op.op = .store ty x y) {b o : Nat} {cs : List Value} (hx : a.eval x = .pointer (some ⟨b, o, none⟩)) (hy : a.eval y = .agg cs.toArray) (ht : w.there b o cs.length) (hi : (P.info? ty).map (·.size) = some cs.length) (h1 : cs.all (·.oneCell') = true) {w1 : World} (e : w.setCells b o cs = w1) : (execOp a.eval op).run P w = .ok .skip w1 := by
  subst e
  have h2 := run_storeVar_mid (P := P) w b o ty cs.toArray (by simpa using ht) (by simpa using hi) (all_oneCell_toArray (fun v hv => (List.all_eq_true.1 h1) v hv))
  unfold execOp
  simp only [ho, hx, hy, Instr.storeAt, Instr.sureAddr, Sem.run_bind, Sem.run_pure, Result.andThen_ok, h2]
theorem wide_boxst {P : Program} {ops : Array Oper} {Q : Exit → Act → World → Prop} {rest : List Oper} {op : Oper} {a : Act} {w : World} (hg : op.guard = none) (hN : op.dst = none) {ty : TypeId} {x y : Operand} (ho : op.op = .store ty x y) {b t : Nat} {arr : Array Value} (hb : w.heap[b]? = some (.cells arr t (0, 0))) {cs : List Value} (hx : a.eval x = .pointer (some ⟨b, 0, none⟩)) (hy : a.eval y = .agg cs.toArray) (hs : arr.size = cs.length) (hi : (P.info? ty).map (·.size) = some cs.length) (h1 : cs.all (·.oneCell') = true)
    (h : wpList P ops Q rest a (w.setCells b 0 cs)) : wpList P ops Q (op :: rest) a w := by
  have hr := wide_run (P := P) ho hx hy (hs ▸ there_blk hb) hi h1 rfl
  refine wpList_plain hg fun K hK => ?_
  unfold Oper.wp
  rw [hr]
  show K (a.put op.dst undef) _
  rw [hN]
  exact hK _ _ h
end Go.Proofs.Ytpkppeicceehcaa.Ext
end
section
namespace Go.Proofs.Ytpkppeicceehcaa.Ext
open Go.RowKit Go.Proofs.YtpkppeicceehcaaW.PrintWords
theorem wide_take {P : Program} {a : Act} {w : World} {op : Oper} {ty : TypeId} {x : Operand} (ho : op.op = .load ty x) {A : Addr} {cs : List Value} (hc : Cells w A cs) (hx : a.eval x = .pointer (some A)) {d : TypeDesc} (hu : P.underlying ty = some d) (hd : d.isRow = true) (hi : (P.info? ty).map (·.size) = some cs.length) : (execOp a.eval op).run P w = .ok (.value (.agg cs.toArray)) w := by
  unfold execOp
  simp only [ho, hx, Instr.loadAt, Instr.sureAddr, Sem.run_bind, Sem.run_pure, Result.andThen_ok, run_loadVar_wide hc ty hu hd hi]
theorem setCells_blk {g t : Nat} : ∀ (cs : List Value) (o : Nat) (w : World) (arr : Array Value), w.heap[g]? = some (.cells arr t (0, 0)) → ∃ arr' : Array Value, arr'.size = arr.size ∧ (w.setCells g o cs).heap[g]? = some (.cells arr' t (0, 0))
  | [], _, _, arr, h => ⟨arr, rfl, h⟩
  | v :: r, o, w, arr, h => by
    obtain ⟨a', h1, h2⟩ := setCells_blk r (o + 1) (w.setCell ⟨g, o, none⟩ v) _ (blk_set h o v)
    exact ⟨a', by rw [h1, Array.size_setIfInBounds], h2⟩
theorem blk_all {w : World} {g t : Nat} {arr : Array Value} {cs : List Value} (h : w.heap[g]? = some (.cells arr t (0, 0))) (hs : arr.size = cs.length) : (w.setCells g 0 cs).heap[g]? = some (.cells cs.toArray t (0, 0)) := by
  obtain ⟨a', h1, h2⟩ := setCells_blk cs 0 w arr h
  rw [h2]
  have he : a' = cs.toArray := by
    apply Array.ext'
    apply List.ext_getElem?
    intro j
    by_cases hj : j < cs.length
    · have h3 := World.cell?_setCells_in g cs 0 w (fun i hi => (there_blk h i (by omega)).1) j hj
      have h4 := blk_cell h2 j
      rw [Nat.zero_add] at h3
      rw [h3] at h4
      simp only [Array.getElem?_toList] 
      rw [← h4]
      simp [hj]
    · rw [List.getElem?_eq_none (by simp; omega), List.getElem?_eq_none (by simp; omega)]
  rw [he]
theorem setCells_put {g t : Nat} : ∀ (cs : List Value) (A B : List Value) (w : World), w.heap[g]? = some (.cells (A ++ B).toArray t (0, 0)) → cs.length ≤ B.length → (w.setCells g A.length cs).heap[g]? = some (.cells (A ++ cs ++ B.drop cs.length).toArray t (0, 0))
  | [], A, B, w, h, _ => by simpa [World.setCells] using h
  | v :: r, A, [], w, h, hl => by simp at hl
  | v :: r, A, x :: B, w, h, hl => by
    have h2 := blk_set h A.length v
    rw [List.setIfInBounds_toArray] at h2
    have e : (A ++ x :: B).set A.length v = (A ++ [v]) ++ B := by simp
    rw [e] at h2
    have h3 := setCells_put r (A ++ [v]) B (w.setCell ⟨g, A.length, none⟩ v) h2 (by simpa using hl)
    rw [List.length_append, List.length_singleton] at h3
    simpa [World.setCells] using h3
theorem blk_part {w : World} {g t : Nat} {cs ds : List Value} (A B : List Value) (o : Nat) (ho : A.length = o) (h : w.heap[g]? = some (.cells (A ++ B).toArray t (0, 0))) (hl : cs.length ≤ B.length) (e : A ++ cs ++ B.drop cs.length = ds) : (w.setCells g o cs).heap[g]? = some (.cells ds.toArray t (0, 0)) := by
  subst ho
  exact e ▸ setCells_put cs A B w h hl
end Go.Proofs.Ytpkppeicceehcaa.Ext
end
