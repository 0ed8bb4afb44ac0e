/- Printed by a program of this session: what functions of the translation come to, each contract as it stands. No condition. -/
import Derived.Test.YtppgalehaiagaaaZIsValidTermPx0M
import Derived.Test.YtppgalehaiagaaaZIsValidTermPx2M
namespace Go.Proofs.Ytppgalehaiagaaa.Px
open Go.RowKit Go.Proofs.Ytppgalehaiagaaa.Ext Go.Proofs.YtppgalehaiagaaaW.PrintWords Go.Proofs.YtppgalehaiagaaaW.PrintLast Go.Proofs.YtppgalehaiagaaaW.PrintMore
attribute [local go_sem] max2_int min2_int max_two min_two max_three min_three max_four min_four   -- for this text's walks alone
set_option linter.unusedVariables false
set_option linter.unusedSimpArgs false

/-! ### spec_l7Left: function 99 -/
mutual
def spec_l7Left.l0 : Nat → Int → Int → Int → ByteArray → Int → Int → List ByteArray → List (S33) → List ByteArray → List (S36) → Option (Int)
 | 0, _, _, _, _, _, _, _, _, _, _ => none
 | k + 1, x1, x5, x395000, x395001, x395002, x395003, x395004, x395005, x395006, x395007 => if x5 < (x395007.length : Int) then (if x1 ≥ 0 then (if 0 ≤ x5 then ((spec_l7Left.f k ((rd_T36 x395007 x5).f0) ((rd_T36 x395007 x5).f1) ((rd_T36 x395007 x5).f2) ((rd_T36 x395007 x5).f3.f0) ((rd_T36 x395007 x5).f3.f1) ((rd_T36 x395007 x5).f3.f2) ((rd_T36 x395007 x5).f4) ((rd_T36 x395007 x5).f5) x1).bind fun t396 => (spec_l7Left.l0 k t396 (wrap64 (x5 + 1)) x395000 x395001 x395002 x395003 x395004 x395005 x395006 x395007)) else (none)) else (some x1)) else (some x1)
def spec_l7Left.f : Nat → Int → ByteArray → Int → Int → List ByteArray → List (S33) → List ByteArray → List (S36) → Int → Option (Int)
 | 0, _, _, _, _, _, _, _, _, _ => none
 | k + 1, a0_0, a0_1, a0_2, a0_3, l0_4, l0_5, l0_6, l0_7, a1 => spec_l7Left.l0 k (wrap64 (a1 - 1)) 0 a0_0 a0_1 a0_2 a0_3 l0_4 l0_5 l0_6 l0_7
end
set_option maxHeartbeats 8000000 in
set_option maxRecDepth 100000 in
theorem spec_l7Left.calls (k : Nat) : ∀ (a0_0 : Int) (a0_1 : ByteArray) (a0_2 : Int) (a0_3 : Int) (A0_4 : Option Addr) (c0_4 : Nat) (l0_4 : List ByteArray) (A0_5 : Option Addr) (c0_5 : Nat) (l0_5 : List (S33)) (A0_6 : Option Addr) (c0_6 : Nat) (l0_6 : List ByteArray) (A0_7 : Option Addr) (c0_7 : Nat) (l0_7 : List (S36)) (a1 : Int) (r : Int) (w : World) (hr0_4 : Kd.C Kd.string w A0_4 l0_4.length l0_4) (hc0_4 : l0_4.length ≤ c0_4) (hr0_5 : Kd.C k33 w A0_5 l0_5.length l0_5) (hc0_5 : l0_5.length ≤ c0_5) (hr0_6 : Kd.C Kd.string w A0_6 l0_6.length l0_6) (hc0_6 : l0_6.length ≤ c0_6) (hr0_7 : Kd.C k36 w A0_7 l0_7.length l0_7) (hc0_7 : l0_7.length ≤ c0_7) (h : spec_l7Left.f k a0_0 a0_1 a0_2 a0_3 l0_4 l0_5 l0_6 l0_7 a1 = some r),
  Calls Try.prog 99 #[.agg #[.int .i64 a0_0, .string a0_1, .int .i64 a0_2, .int .i64 a0_3, .slice A0_4 l0_4.length c0_4, .slice A0_5 l0_5.length c0_5, .slice A0_6 l0_6.length c0_6, .slice A0_7 l0_7.length c0_7], .int .i64 a1] w fun e w' => e = .returned (.int .i64 r) ∧ Below w.heap.size w w' := by
 induction k using Nat.strongRecOn with
 | _ k ih =>
 intro a0_0 a0_1 a0_2 a0_3 A0_4 c0_4 l0_4 A0_5 c0_5 l0_5 A0_6 c0_6 l0_6 A0_7 c0_7 l0_7 a1 r w hr0_4 hc0_4 hr0_5 hc0_5 hr0_6 hc0_6 hr0_7 hc0_7 h
 cases k with
 | zero => exact absurd h (by simp [spec_l7Left.f])
 | succ k =>
 simp only [spec_l7Left.f] at h
 have hu36 := Try.underlying36
 have HR0_4 := Aside0.mk hr0_4
 have HC0_4 := Aside0.mk hc0_4
 clear hr0_4 hc0_4
 have HR0_5 := Aside0.mk hr0_5
 have HC0_5 := Aside0.mk hc0_5
 clear hr0_5 hc0_5
 have HR0_6 := Aside0.mk hr0_6
 have HC0_6 := Aside0.mk hc0_6
 clear hr0_6 hc0_6
 have HR0_7 := Aside0.mk hr0_7
 have HC0_7 := Aside0.mk hc0_7
 clear hr0_7 hc0_7
 have HB := Aside0.mk (Below.refl w.heap.size w)
 have H : (spec_l7Left.l0 k (wrap64 (a1 - 1)) 0 a0_0 a0_1 a0_2 a0_3 l0_4 l0_5 l0_6 l0_7) = some r := h
 clear h
 have H' := Aside0.mk H
 clear H
 go_enter Try.func99, Try.ntmps99
 go_wp2_with (first | ((with_reducible refine gate_dst (N := 2) rfl ?_); refine box_event ?hg (N := 2) ?hd (cs := #[.int .i64 a0_0, .string a0_1, .int .i64 a0_2, .int .i64 a0_3, .slice A0_4 l0_4.length c0_4, .slice A0_5 l0_5.length c0_5, .slice A0_6 l0_6.length c0_6, .slice A0_7 l0_7.length c0_7]) (t := 36) ?hr ?_; (case hd => rfl); (case hg => rfl); (case hr => first | (go_simp; done) | (go_simp; rfl)); intro gb394 hg w3 hbox hb; have n0_ := Aside0.mk (below_step (by repeat (first | (with_reducible first | exact HB.out | apply below_alloc | apply pw_below_drewN | apply below_drew1) | exact HB.out)) hb); have n1_ := Aside0.mk (hbox); have n2_ := Aside0.mk ((by rw [hg]; exact (below_size (by repeat (first | (with_reducible first | exact HB.out | apply below_alloc | apply pw_below_drewN | apply below_drew1) | exact HB.out))) : w.heap.size ≤ gb394)); have n3_ := Aside0.mk ((by rw [hg]; exact (below_size (by repeat (first | (with_reducible first | exact HB.out | apply below_alloc | apply pw_below_drewN | apply below_drew1) | exact HB.out))) : w.heap.size ≤ gb394)); clear HB; have HB := n0_; have BK394 := n1_; have GW394 := n2_; have GE394 := n3_; clear n0_ n1_ n2_ n3_; clear hb hbox hg))
 go_loopg [1, 5] k (fun kq v1 v5 w' => ∃ (x1_1 : Int) (x5_1 : Int), v1 = .int .i64 x1_1 ∧ v5 = .int .i64 x5_1 ∧ Aside0 (spec_l7Left.l0 kq x1_1 x5_1 a0_0 a0_1 a0_2 a0_3 l0_4 l0_5 l0_6 l0_7 = some r) ∧ Aside0 (kq ≤ k) ∧ Aside0 (w'.heap[gb394]? = some (.cells #[.int .i64 a0_0, .string a0_1, .int .i64 a0_2, .int .i64 a0_3, (.slice A0_4 l0_4.length c0_4), (.slice A0_5 l0_5.length c0_5), (.slice A0_6 l0_6.length c0_6), (.slice A0_7 l0_7.length c0_7)] 36 (0, 0))) ∧ Aside0 (Below w.heap.size w w'))
 case atStart => exact ⟨(wrap64 (a1 - 1)), (0), (by first | rfl | (simp; done) | (simp [i64_w, i32_w]; done) | (simp [*]; done)), (by first | rfl | (simp; done) | (simp [i64_w, i32_w]; done) | (simp [*]; done)), H', ⟨Nat.le_refl _⟩, ⟨by (with_reducible repeat (first | refine blk_drewN ?_ _ | refine blk_drew ?_ | refine blk_alloc ?_ _)); exact BK394.out⟩, ⟨by repeat (first | (with_reducible first | exact HB.out | apply below_alloc | apply pw_below_drewN | apply below_drew1 | refine below_set ?_ GE394.out) | exact HB.out)⟩⟩
 case round =>
  clear H'
  try clear p2
  obtain ⟨x1_1, x5_1, rfl, rfl, HA, HK1, BK394, HB⟩ := hrel
  cases gk with
  | zero => exact absurd HA.out (by simp [spec_l7Left.l0])
  | succ k1 =>
   have H := HA.out
   clear HA
   simp only [spec_l7Left.l0] at H
   by_cases c4 : x5_1 < (l0_7.length : Int)
   ·rw [if_pos c4] at H
    have c4b0 : decide (x5_1 < (l0_7.length : Int)) = true := decide_eq_true c4
    clear c4
    by_cases c5 : x1_1 ≥ 0
    ·rw [if_pos c5] at H
     have c5b0 : decide (0 ≤ x1_1) = true := decide_eq_true c5
     clear c5
     by_cases c6 : 0 ≤ x5_1
     ·rw [if_pos c6] at H
      have c6b0 : decide (0 ≤ x5_1) = true := decide_eq_true c6
      clear c6
      replace H := Option.bind_eq_some_iff.mp H
      obtain ⟨t396, A70, H⟩ := H
      replace H : (spec_l7Left.l0 k1 t396 (wrap64 (x5_1 + 1)) a0_0 a0_1 a0_2 a0_3 l0_4 l0_5 l0_6 l0_7) = some r := H
      have A7 := Aside0.mk A70
      clear A70
      have H' := Aside0.mk H
      clear H
      have hcz8_0 : wr.cell? ⟨gb394, 0, none⟩ = some (.int .i64 a0_0) := (blk_cell BK394.out 0).trans rfl
      have hcz8_1 : wr.cell? ⟨gb394, 1, none⟩ = some (.string a0_1) := (blk_cell BK394.out 1).trans rfl
      have hcz8_2 : wr.cell? ⟨gb394, 2, none⟩ = some (.int .i64 a0_2) := (blk_cell BK394.out 2).trans rfl
      have hcz8_3 : wr.cell? ⟨gb394, 3, none⟩ = some (.int .i64 a0_3) := (blk_cell BK394.out 3).trans rfl
      have hcz8_4 : wr.cell? ⟨gb394, 4, none⟩ = some (.slice A0_4 l0_4.length c0_4) := (blk_cell BK394.out 4).trans rfl
      have hcz8_5 : wr.cell? ⟨gb394, 5, none⟩ = some (.slice A0_5 l0_5.length c0_5) := (blk_cell BK394.out 5).trans rfl
      have hcz8_6 : wr.cell? ⟨gb394, 6, none⟩ = some (.slice A0_6 l0_6.length c0_6) := (blk_cell BK394.out 6).trans rfl
      have hcz8_7 : wr.cell? ⟨gb394, 7, none⟩ = some (.slice A0_7 l0_7.length c0_7) := (blk_cell BK394.out 7).trans rfl
      have hfz8_0 := blk_frozen BK394.out 0
      have hfz8_1 := blk_frozen BK394.out 1
      have hfz8_2 := blk_frozen BK394.out 2
      have hfz8_3 := blk_frozen BK394.out 3
      have hfz8_4 := blk_frozen BK394.out 4
      have hfz8_5 := blk_frozen BK394.out 5
      have hfz8_6 := blk_frozen BK394.out 6
      have hfz8_7 := blk_frozen BK394.out 7
      have p395 : 0 ≤ (x5_1 : Int) := of_decide_eq_true (by first | (with_reducible assumption) | assumption)
      have q395 : x5_1 < (l0_7.length : Int) := of_decide_eq_true (by first | (with_reducible assumption) | assumption)
      obtain ⟨ad395, A395_4, c395_4, A395_5, c395_5, A395_6, c395_6, A395_7, c395_7, e395, hx395_0, hx395_1, hx395_2, hx395_3, hx395_4, hx395_5, hx395_6, hx395_7, hl395_4, hi395_4, hl395_5, hi395_5, hl395_6, hi395_6, hl395_7, hi395_7⟩ := at_T36 HR0_7.out x5_1 p395 q395
      cases e395
      replace hx395_0 := (HB.out.cell (World.block_lt_of_cell? w _ hx395_0)).trans hx395_0
      replace hx395_1 := (HB.out.cell (World.block_lt_of_cell? w _ hx395_1)).trans hx395_1
      replace hx395_2 := (HB.out.cell (World.block_lt_of_cell? w _ hx395_2)).trans hx395_2
      replace hx395_3 := (HB.out.cell (World.block_lt_of_cell? w _ hx395_3)).trans hx395_3
      replace hx395_4 := (HB.out.cell (World.block_lt_of_cell? w _ hx395_4)).trans hx395_4
      replace hx395_5 := (HB.out.cell (World.block_lt_of_cell? w _ hx395_5)).trans hx395_5
      replace hx395_6 := (HB.out.cell (World.block_lt_of_cell? w _ hx395_6)).trans hx395_6
      replace hx395_7 := (HB.out.cell (World.block_lt_of_cell? w _ hx395_7)).trans hx395_7
      have HR395_4 := Aside0.mk hi395_4
      have HC395_4 := Aside0.mk hl395_4
      clear hi395_4 hl395_4
      have HR395_5 := Aside0.mk hi395_5
      have HC395_5 := Aside0.mk hl395_5
      clear hi395_5 hl395_5
      have HR395_6 := Aside0.mk hi395_6
      have HC395_6 := Aside0.mk hl395_6
      clear hi395_6 hl395_6
      have HR395_7 := Aside0.mk hi395_7
      have HC395_7 := Aside0.mk hl395_7
      clear hi395_7 hl395_7
      replace p395 := eq_true p395
      replace q395 := eq_true q395
      go_wp2_with (first | ((with_reducible refine gate_callee (f := 99) rfl ?_); refine goesL_ (some 25) rfl rfl Try.func99 (by kernel_rfl) rfl #[.agg #[.int .i64 ((rd_T36 l0_7 x5_1).f0), .string ((rd_T36 l0_7 x5_1).f1), .int .i64 ((rd_T36 l0_7 x5_1).f2), .int .i64 ((rd_T36 l0_7 x5_1).f3.f0), .slice A395_4 ((rd_T36 l0_7 x5_1).f3.f1).length c395_4, .slice A395_5 ((rd_T36 l0_7 x5_1).f3.f2).length c395_5, .slice A395_6 ((rd_T36 l0_7 x5_1).f4).length c395_6, .slice A395_7 ((rd_T36 l0_7 x5_1).f5).length c395_7], .int .i64 x1_1] rfl (by (try simp only [List.map_toArray, List.map_cons, List.map_nil]); first | done | rfl | (simp only [List.length_drop, List.length_take]; rfl)) ?_; (with_reducible refine (ih k1 (by have := HK1.out; omega) ((rd_T36 l0_7 x5_1).f0) ((rd_T36 l0_7 x5_1).f1) ((rd_T36 l0_7 x5_1).f2) ((rd_T36 l0_7 x5_1).f3.f0) _ _ ((rd_T36 l0_7 x5_1).f3.f1) _ _ ((rd_T36 l0_7 x5_1).f3.f2) _ _ ((rd_T36 l0_7 x5_1).f4) _ _ ((rd_T36 l0_7 x5_1).f5) x1_1 t396 _ ?side1 ?side2 ?side3 ?side4 ?side5 ?side6 ?side7 ?side8 A7.out).mono ?_); (case side1 => repeat (first | exact (Kd.C_below HR395_4.out HB.out) | (with_reducible refine Kd.C_alloc ?_ _) | (with_reducible refine Kd.C_drewN ?_ _) | (with_reducible refine Kd.C_drew ?_))); (case side2 => exact HC395_4.out); (case side3 => repeat (first | exact (Kd.C_below HR395_5.out HB.out) | (with_reducible refine Kd.C_alloc ?_ _) | (with_reducible refine Kd.C_drewN ?_ _) | (with_reducible refine Kd.C_drew ?_))); (case side4 => exact HC395_5.out); (case side5 => repeat (first | exact (Kd.C_below HR395_6.out HB.out) | (with_reducible refine Kd.C_alloc ?_ _) | (with_reducible refine Kd.C_drewN ?_ _) | (with_reducible refine Kd.C_drew ?_))); (case side6 => exact HC395_6.out); (case side7 => repeat (first | exact (Kd.C_below HR395_7.out HB.out) | (with_reducible refine Kd.C_alloc ?_ _) | (with_reducible refine Kd.C_drewN ?_ _) | (with_reducible refine Kd.C_drew ?_))); (case side8 => exact HC395_7.out); rintro e w9 ⟨rfl, hb⟩; refine ⟨_, rfl, ?_⟩; have n0_ := Aside0.mk (blk_below (g := gb394) (o := .cells #[.int .i64 a0_0, .string a0_1, .int .i64 a0_2, .int .i64 a0_3, .slice A0_4 l0_4.length c0_4, .slice A0_5 l0_5.length c0_5, .slice A0_6 l0_6.length c0_6, .slice (some ad395) l0_7.length c0_7] 36 (0, 0)) (by (with_reducible repeat (first | refine blk_drewN ?_ _ | refine blk_drew ?_ | refine blk_alloc ?_ _)); exact BK394.out) hb); have n1_ := Aside0.mk (below_step (by repeat (first | (with_reducible first | exact HB.out | apply below_alloc | apply pw_below_drewN | apply below_drew1 | refine below_set ?_ GE394.out) | exact HB.out)) hb); clear BK394; clear HB; have BK394 := n0_; have HB := n1_; clear n0_ n1_; (try clear hb); (try clear hb2); (try clear hk); (try clear hi)))
      go_roundg k1
      case measure => have := HK1.out; omega
      case rel => exact ⟨(t396), (wrap64 (x5_1 + 1)), (by first | rfl | (simp; done) | (simp [i64_w, i32_w]; done) | (simp [*]; done)), (by first | rfl | (simp; done) | (simp [i64_w, i32_w]; done) | (simp [*]; done)), H', ⟨by have := HK1.out; omega⟩, ⟨by (with_reducible repeat (first | refine blk_drewN ?_ _ | refine blk_drew ?_ | refine blk_alloc ?_ _)); exact BK394.out⟩, ⟨by repeat (first | (with_reducible first | exact HB.out | apply below_alloc | apply pw_below_drewN | apply below_drew1 | refine below_set ?_ GE394.out) | exact HB.out)⟩⟩
     ·rw [if_neg c6] at H
      exact absurd H (by simp)
    ·rw [if_neg c5] at H
     have c5b0 : decide (0 ≤ x1_1) = false := decide_eq_false c5
     clear c5
     obtain rfl := Option.some.inj H
     have hcz10_0 : wr.cell? ⟨gb394, 0, none⟩ = some (.int .i64 a0_0) := (blk_cell BK394.out 0).trans rfl
     have hcz10_1 : wr.cell? ⟨gb394, 1, none⟩ = some (.string a0_1) := (blk_cell BK394.out 1).trans rfl
     have hcz10_2 : wr.cell? ⟨gb394, 2, none⟩ = some (.int .i64 a0_2) := (blk_cell BK394.out 2).trans rfl
     have hcz10_3 : wr.cell? ⟨gb394, 3, none⟩ = some (.int .i64 a0_3) := (blk_cell BK394.out 3).trans rfl
     have hcz10_4 : wr.cell? ⟨gb394, 4, none⟩ = some (.slice A0_4 l0_4.length c0_4) := (blk_cell BK394.out 4).trans rfl
     have hcz10_5 : wr.cell? ⟨gb394, 5, none⟩ = some (.slice A0_5 l0_5.length c0_5) := (blk_cell BK394.out 5).trans rfl
     have hcz10_6 : wr.cell? ⟨gb394, 6, none⟩ = some (.slice A0_6 l0_6.length c0_6) := (blk_cell BK394.out 6).trans rfl
     have hcz10_7 : wr.cell? ⟨gb394, 7, none⟩ = some (.slice A0_7 l0_7.length c0_7) := (blk_cell BK394.out 7).trans rfl
     have hfz10_0 := blk_frozen BK394.out 0
     have hfz10_1 := blk_frozen BK394.out 1
     have hfz10_2 := blk_frozen BK394.out 2
     have hfz10_3 := blk_frozen BK394.out 3
     have hfz10_4 := blk_frozen BK394.out 4
     have hfz10_5 := blk_frozen BK394.out 5
     have hfz10_6 := blk_frozen BK394.out 6
     have hfz10_7 := blk_frozen BK394.out 7
     go_wp2
     go_ret
     exact ⟨by first | rfl | (simp [errW_none, errW_some] <;> rfl) | (simp [*, errW_none, errW_some] <;> rfl), by repeat (first | (with_reducible first | exact HB.out | apply below_alloc | apply pw_below_drewN | apply below_drew1 | refine below_set ?_ GE394.out) | exact HB.out)⟩
   ·rw [if_neg c4] at H
    have c4b0 : decide (x5_1 < (l0_7.length : Int)) = false := decide_eq_false c4
    clear c4
    obtain rfl := Option.some.inj H
    have hcz11_0 : wr.cell? ⟨gb394, 0, none⟩ = some (.int .i64 a0_0) := (blk_cell BK394.out 0).trans rfl
    have hcz11_1 : wr.cell? ⟨gb394, 1, none⟩ = some (.string a0_1) := (blk_cell BK394.out 1).trans rfl
    have hcz11_2 : wr.cell? ⟨gb394, 2, none⟩ = some (.int .i64 a0_2) := (blk_cell BK394.out 2).trans rfl
    have hcz11_3 : wr.cell? ⟨gb394, 3, none⟩ = some (.int .i64 a0_3) := (blk_cell BK394.out 3).trans rfl
    have hcz11_4 : wr.cell? ⟨gb394, 4, none⟩ = some (.slice A0_4 l0_4.length c0_4) := (blk_cell BK394.out 4).trans rfl
    have hcz11_5 : wr.cell? ⟨gb394, 5, none⟩ = some (.slice A0_5 l0_5.length c0_5) := (blk_cell BK394.out 5).trans rfl
    have hcz11_6 : wr.cell? ⟨gb394, 6, none⟩ = some (.slice A0_6 l0_6.length c0_6) := (blk_cell BK394.out 6).trans rfl
    have hcz11_7 : wr.cell? ⟨gb394, 7, none⟩ = some (.slice A0_7 l0_7.length c0_7) := (blk_cell BK394.out 7).trans rfl
    have hfz11_0 := blk_frozen BK394.out 0
    have hfz11_1 := blk_frozen BK394.out 1
    have hfz11_2 := blk_frozen BK394.out 2
    have hfz11_3 := blk_frozen BK394.out 3
    have hfz11_4 := blk_frozen BK394.out 4
    have hfz11_5 := blk_frozen BK394.out 5
    have hfz11_6 := blk_frozen BK394.out 6
    have hfz11_7 := blk_frozen BK394.out 7
    go_wp2
    go_ret
    exact ⟨by first | rfl | (simp [errW_none, errW_some] <;> rfl) | (simp [*, errW_none, errW_some] <;> rfl), by repeat (first | (with_reducible first | exact HB.out | apply below_alloc | apply pw_below_drewN | apply below_drew1 | refine below_set ?_ GE394.out) | exact HB.out)⟩

/-! ### spec_DepthOfTerm: function 100 -/
mutual
def spec_DepthOfTerm.l0 : Nat → Int → Int → Int → ByteArray → Int → Int → List ByteArray → List (S33) → List ByteArray → List (S36) → Option (Int)
 | 0, _, _, _, _, _, _, _, _, _, _ => none
 | k + 1, x3, x4, x398000, x398001, x398002, x398003, x398004, x398005, x398006, x398007 => if x4 < (x398007.length : Int) then (if 0 ≤ x4 then ((spec_DepthOfTerm.f k ((rd_T36 x398007 x4).f0) ((rd_T36 x398007 x4).f1) ((rd_T36 x398007 x4).f2) ((rd_T36 x398007 x4).f3.f0) ((rd_T36 x398007 x4).f3.f1) ((rd_T36 x398007 x4).f3.f2) ((rd_T36 x398007 x4).f4) ((rd_T36 x398007 x4).f5)).bind fun t399 => ((spec_l1Max.f x3 t399).bind fun t400 => (spec_DepthOfTerm.l0 k t400 (wrap64 (x4 + 1)) x398000 x398001 x398002 x398003 x398004 x398005 x398006 x398007))) else (none)) else (some (wrap64 (x3 + 1)))
def spec_DepthOfTerm.f : Nat → Int → ByteArray → Int → Int → List ByteArray → List (S33) → List ByteArray → List (S36) → Option (Int)
 | 0, _, _, _, _, _, _, _, _ => none
 | k + 1, a0_0, a0_1, a0_2, a0_3, l0_4, l0_5, l0_6, l0_7 => spec_DepthOfTerm.l0 k 0 0 a0_0 a0_1 a0_2 a0_3 l0_4 l0_5 l0_6 l0_7
end
set_option maxHeartbeats 8000000 in
set_option maxRecDepth 100000 in
theorem spec_DepthOfTerm.calls (k : Nat) : ∀ (a0_0 : Int) (a0_1 : ByteArray) (a0_2 : Int) (a0_3 : Int) (A0_4 : Option Addr) (c0_4 : Nat) (l0_4 : List ByteArray) (A0_5 : Option Addr) (c0_5 : Nat) (l0_5 : List (S33)) (A0_6 : Option Addr) (c0_6 : Nat) (l0_6 : List ByteArray) (A0_7 : Option Addr) (c0_7 : Nat) (l0_7 : List (S36)) (r : Int) (w : World) (hr0_4 : Kd.C Kd.string w A0_4 l0_4.length l0_4) (hc0_4 : l0_4.length ≤ c0_4) (hr0_5 : Kd.C k33 w A0_5 l0_5.length l0_5) (hc0_5 : l0_5.length ≤ c0_5) (hr0_6 : Kd.C Kd.string w A0_6 l0_6.length l0_6) (hc0_6 : l0_6.length ≤ c0_6) (hr0_7 : Kd.C k36 w A0_7 l0_7.length l0_7) (hc0_7 : l0_7.length ≤ c0_7) (h : spec_DepthOfTerm.f k a0_0 a0_1 a0_2 a0_3 l0_4 l0_5 l0_6 l0_7 = some r),
  Calls Try.prog 100 #[.agg #[.int .i64 a0_0, .string a0_1, .int .i64 a0_2, .int .i64 a0_3, .slice A0_4 l0_4.length c0_4, .slice A0_5 l0_5.length c0_5, .slice A0_6 l0_6.length c0_6, .slice A0_7 l0_7.length c0_7]] w fun e w' => e = .returned (.int .i64 r) ∧ Below w.heap.size w w' := by
 induction k using Nat.strongRecOn with
 | _ k ih =>
 intro a0_0 a0_1 a0_2 a0_3 A0_4 c0_4 l0_4 A0_5 c0_5 l0_5 A0_6 c0_6 l0_6 A0_7 c0_7 l0_7 r w hr0_4 hc0_4 hr0_5 hc0_5 hr0_6 hc0_6 hr0_7 hc0_7 h
 cases k with
 | zero => exact absurd h (by simp [spec_DepthOfTerm.f])
 | succ k =>
 simp only [spec_DepthOfTerm.f] at h
 have hu36 := Try.underlying36
 have HR0_4 := Aside0.mk hr0_4
 have HC0_4 := Aside0.mk hc0_4
 clear hr0_4 hc0_4
 have HR0_5 := Aside0.mk hr0_5
 have HC0_5 := Aside0.mk hc0_5
 clear hr0_5 hc0_5
 have HR0_6 := Aside0.mk hr0_6
 have HC0_6 := Aside0.mk hc0_6
 clear hr0_6 hc0_6
 have HR0_7 := Aside0.mk hr0_7
 have HC0_7 := Aside0.mk hc0_7
 clear hr0_7 hc0_7
 have HB := Aside0.mk (Below.refl w.heap.size w)
 have H : (spec_DepthOfTerm.l0 k 0 0 a0_0 a0_1 a0_2 a0_3 l0_4 l0_5 l0_6 l0_7) = some r := h
 clear h
 have H' := Aside0.mk H
 clear H
 go_enter Try.func100, Try.ntmps100
 go_wp2_with (first | ((with_reducible refine gate_dst (N := 1) rfl ?_); refine box_event ?hg (N := 1) ?hd (cs := #[.int .i64 a0_0, .string a0_1, .int .i64 a0_2, .int .i64 a0_3, .slice A0_4 l0_4.length c0_4, .slice A0_5 l0_5.length c0_5, .slice A0_6 l0_6.length c0_6, .slice A0_7 l0_7.length c0_7]) (t := 36) ?hr ?_; (case hd => rfl); (case hg => rfl); (case hr => first | (go_simp; done) | (go_simp; rfl)); intro gb397 hg w2 hbox hb; have n0_ := Aside0.mk (below_step (by repeat (first | (with_reducible first | exact HB.out | apply below_alloc | apply pw_below_drewN | apply below_drew1) | exact HB.out)) hb); have n1_ := Aside0.mk (hbox); have n2_ := Aside0.mk ((by rw [hg]; exact (below_size (by repeat (first | (with_reducible first | exact HB.out | apply below_alloc | apply pw_below_drewN | apply below_drew1) | exact HB.out))) : w.heap.size ≤ gb397)); have n3_ := Aside0.mk ((by rw [hg]; exact (below_size (by repeat (first | (with_reducible first | exact HB.out | apply below_alloc | apply pw_below_drewN | apply below_drew1) | exact HB.out))) : w.heap.size ≤ gb397)); clear HB; have HB := n0_; have BK397 := n1_; have GW397 := n2_; have GE397 := n3_; clear n0_ n1_ n2_ n3_; clear hb hbox hg))
 go_loopg [3, 4] k (fun kq v3 v4 w' => ∃ (x3_1 : Int) (x4_1 : Int), v3 = .int .i64 x3_1 ∧ v4 = .int .i64 x4_1 ∧ Aside0 (spec_DepthOfTerm.l0 kq x3_1 x4_1 a0_0 a0_1 a0_2 a0_3 l0_4 l0_5 l0_6 l0_7 = some r) ∧ Aside0 (kq ≤ k) ∧ Aside0 (w'.heap[gb397]? = some (.cells #[.int .i64 a0_0, .string a0_1, .int .i64 a0_2, .int .i64 a0_3, (.slice A0_4 l0_4.length c0_4), (.slice A0_5 l0_5.length c0_5), (.slice A0_6 l0_6.length c0_6), (.slice A0_7 l0_7.length c0_7)] 36 (0, 0))) ∧ Aside0 (Below w.heap.size w w'))
 case atStart => exact ⟨(0), (0), (by first | rfl | (simp; done) | (simp [i64_w, i32_w]; done) | (simp [*]; done)), (by first | rfl | (simp; done) | (simp [i64_w, i32_w]; done) | (simp [*]; done)), H', ⟨Nat.le_refl _⟩, ⟨by (with_reducible repeat (first | refine blk_drewN ?_ _ | refine blk_drew ?_ | refine blk_alloc ?_ _)); exact BK397.out⟩, ⟨by repeat (first | (with_reducible first | exact HB.out | apply below_alloc | apply pw_below_drewN | apply below_drew1 | refine below_set ?_ GE397.out) | exact HB.out)⟩⟩
 case round =>
  clear H'
  (try clear c1); (try clear p2)
  obtain ⟨x3_1, x4_1, rfl, rfl, HA, HK1, BK397, HB⟩ := hrel
  cases gk with
  | zero => exact absurd HA.out (by simp [spec_DepthOfTerm.l0])
  | succ k1 =>
   have H := HA.out
   clear HA
   simp only [spec_DepthOfTerm.l0] at H
   by_cases c3 : x4_1 < (l0_7.length : Int)
   ·rw [if_pos c3] at H
    have c3b0 : decide (x4_1 < (l0_7.length : Int)) = true := decide_eq_true c3
    clear c3
    by_cases c4 : 0 ≤ x4_1
    ·rw [if_pos c4] at H
     have c4b0 : decide (0 ≤ x4_1) = true := decide_eq_true c4
     clear c4
     replace H := Option.bind_eq_some_iff.mp H
     obtain ⟨t399, A50, H⟩ := H
     replace H : ((spec_l1Max.f x3_1 t399).bind fun t400 => (spec_DepthOfTerm.l0 k1 t400 (wrap64 (x4_1 + 1)) a0_0 a0_1 a0_2 a0_3 l0_4 l0_5 l0_6 l0_7)) = some r := H
     have A5 := Aside0.mk A50
     clear A50
     replace H := Option.bind_eq_some_iff.mp H
     obtain ⟨t400, A60, H⟩ := H
     replace H : (spec_DepthOfTerm.l0 k1 t400 (wrap64 (x4_1 + 1)) a0_0 a0_1 a0_2 a0_3 l0_4 l0_5 l0_6 l0_7) = some r := H
     have A6 := Aside0.mk A60
     clear A60
     have H' := Aside0.mk H
     clear H
     have hcz7_0 : wr.cell? ⟨gb397, 0, none⟩ = some (.int .i64 a0_0) := (blk_cell BK397.out 0).trans rfl
     have hcz7_1 : wr.cell? ⟨gb397, 1, none⟩ = some (.string a0_1) := (blk_cell BK397.out 1).trans rfl
     have hcz7_2 : wr.cell? ⟨gb397, 2, none⟩ = some (.int .i64 a0_2) := (blk_cell BK397.out 2).trans rfl
     have hcz7_3 : wr.cell? ⟨gb397, 3, none⟩ = some (.int .i64 a0_3) := (blk_cell BK397.out 3).trans rfl
     have hcz7_4 : wr.cell? ⟨gb397, 4, none⟩ = some (.slice A0_4 l0_4.length c0_4) := (blk_cell BK397.out 4).trans rfl
     have hcz7_5 : wr.cell? ⟨gb397, 5, none⟩ = some (.slice A0_5 l0_5.length c0_5) := (blk_cell BK397.out 5).trans rfl
     have hcz7_6 : wr.cell? ⟨gb397, 6, none⟩ = some (.slice A0_6 l0_6.length c0_6) := (blk_cell BK397.out 6).trans rfl
     have hcz7_7 : wr.cell? ⟨gb397, 7, none⟩ = some (.slice A0_7 l0_7.length c0_7) := (blk_cell BK397.out 7).trans rfl
     have hfz7_0 := blk_frozen BK397.out 0
     have hfz7_1 := blk_frozen BK397.out 1
     have hfz7_2 := blk_frozen BK397.out 2
     have hfz7_3 := blk_frozen BK397.out 3
     have hfz7_4 := blk_frozen BK397.out 4
     have hfz7_5 := blk_frozen BK397.out 5
     have hfz7_6 := blk_frozen BK397.out 6
     have hfz7_7 := blk_frozen BK397.out 7
     have p398 : 0 ≤ (x4_1 : Int) := of_decide_eq_true (by first | (with_reducible assumption) | assumption)
     have q398 : x4_1 < (l0_7.length : Int) := of_decide_eq_true (by first | (with_reducible assumption) | assumption)
     obtain ⟨ad398, A398_4, c398_4, A398_5, c398_5, A398_6, c398_6, A398_7, c398_7, e398, hx398_0, hx398_1, hx398_2, hx398_3, hx398_4, hx398_5, hx398_6, hx398_7, hl398_4, hi398_4, hl398_5, hi398_5, hl398_6, hi398_6, hl398_7, hi398_7⟩ := at_T36 HR0_7.out x4_1 p398 q398
     cases e398
     replace hx398_0 := (HB.out.cell (World.block_lt_of_cell? w _ hx398_0)).trans hx398_0
     replace hx398_1 := (HB.out.cell (World.block_lt_of_cell? w _ hx398_1)).trans hx398_1
     replace hx398_2 := (HB.out.cell (World.block_lt_of_cell? w _ hx398_2)).trans hx398_2
     replace hx398_3 := (HB.out.cell (World.block_lt_of_cell? w _ hx398_3)).trans hx398_3
     replace hx398_4 := (HB.out.cell (World.block_lt_of_cell? w _ hx398_4)).trans hx398_4
     replace hx398_5 := (HB.out.cell (World.block_lt_of_cell? w _ hx398_5)).trans hx398_5
     replace hx398_6 := (HB.out.cell (World.block_lt_of_cell? w _ hx398_6)).trans hx398_6
     replace hx398_7 := (HB.out.cell (World.block_lt_of_cell? w _ hx398_7)).trans hx398_7
     have HR398_4 := Aside0.mk hi398_4
     have HC398_4 := Aside0.mk hl398_4
     clear hi398_4 hl398_4
     have HR398_5 := Aside0.mk hi398_5
     have HC398_5 := Aside0.mk hl398_5
     clear hi398_5 hl398_5
     have HR398_6 := Aside0.mk hi398_6
     have HC398_6 := Aside0.mk hl398_6
     clear hi398_6 hl398_6
     have HR398_7 := Aside0.mk hi398_7
     have HC398_7 := Aside0.mk hl398_7
     clear hi398_7 hl398_7
     replace p398 := eq_true p398
     replace q398 := eq_true q398
     go_wp2_with (first | ((with_reducible refine gate_callee (f := 100) rfl ?_); refine goesL_ (some 18) rfl rfl Try.func100 (by kernel_rfl) rfl #[.agg #[.int .i64 ((rd_T36 l0_7 x4_1).f0), .string ((rd_T36 l0_7 x4_1).f1), .int .i64 ((rd_T36 l0_7 x4_1).f2), .int .i64 ((rd_T36 l0_7 x4_1).f3.f0), .slice A398_4 ((rd_T36 l0_7 x4_1).f3.f1).length c398_4, .slice A398_5 ((rd_T36 l0_7 x4_1).f3.f2).length c398_5, .slice A398_6 ((rd_T36 l0_7 x4_1).f4).length c398_6, .slice A398_7 ((rd_T36 l0_7 x4_1).f5).length c398_7]] rfl (by (try simp only [List.map_toArray, List.map_cons, List.map_nil]); first | done | rfl | (simp only [List.length_drop, List.length_take]; rfl)) ?_; (with_reducible refine (ih k1 (by have := HK1.out; omega) ((rd_T36 l0_7 x4_1).f0) ((rd_T36 l0_7 x4_1).f1) ((rd_T36 l0_7 x4_1).f2) ((rd_T36 l0_7 x4_1).f3.f0) _ _ ((rd_T36 l0_7 x4_1).f3.f1) _ _ ((rd_T36 l0_7 x4_1).f3.f2) _ _ ((rd_T36 l0_7 x4_1).f4) _ _ ((rd_T36 l0_7 x4_1).f5) t399 _ ?side1 ?side2 ?side3 ?side4 ?side5 ?side6 ?side7 ?side8 A5.out).mono ?_); (case side1 => repeat (first | exact (Kd.C_below HR398_4.out HB.out) | (with_reducible refine Kd.C_alloc ?_ _) | (with_reducible refine Kd.C_drewN ?_ _) | (with_reducible refine Kd.C_drew ?_))); (case side2 => exact HC398_4.out); (case side3 => repeat (first | exact (Kd.C_below HR398_5.out HB.out) | (with_reducible refine Kd.C_alloc ?_ _) | (with_reducible refine Kd.C_drewN ?_ _) | (with_reducible refine Kd.C_drew ?_))); (case side4 => exact HC398_5.out); (case side5 => repeat (first | exact (Kd.C_below HR398_6.out HB.out) | (with_reducible refine Kd.C_alloc ?_ _) | (with_reducible refine Kd.C_drewN ?_ _) | (with_reducible refine Kd.C_drew ?_))); (case side6 => exact HC398_6.out); (case side7 => repeat (first | exact (Kd.C_below HR398_7.out HB.out) | (with_reducible refine Kd.C_alloc ?_ _) | (with_reducible refine Kd.C_drewN ?_ _) | (with_reducible refine Kd.C_drew ?_))); (case side8 => exact HC398_7.out); rintro e w8 ⟨rfl, hb⟩; refine ⟨_, rfl, ?_⟩; have n0_ := Aside0.mk (blk_below (g := gb397) (o := .cells #[.int .i64 a0_0, .string a0_1, .int .i64 a0_2, .int .i64 a0_3, .slice A0_4 l0_4.length c0_4, .slice A0_5 l0_5.length c0_5, .slice A0_6 l0_6.length c0_6, .slice (some ad398) l0_7.length c0_7] 36 (0, 0)) (by (with_reducible repeat (first | refine blk_drewN ?_ _ | refine blk_drew ?_ | refine blk_alloc ?_ _)); exact BK397.out) hb); have n1_ := Aside0.mk (below_step (by repeat (first | (with_reducible first | exact HB.out | apply below_alloc | apply pw_below_drewN | apply below_drew1 | refine below_set ?_ GE397.out) | exact HB.out)) hb); clear BK397; clear HB; have BK397 := n0_; have HB := n1_; clear n0_ n1_; (try clear hb); (try clear hb2); (try clear hk); (try clear hi)) | ((with_reducible refine gate_callee (f := 120) rfl ?_); refine goesL_ (some 19) rfl rfl Try.func120 (by kernel_rfl) rfl #[.int .i64 x3_1, .int .i64 t399] rfl (by (try simp only [List.map_toArray, List.map_cons, List.map_nil]); first | done | rfl | (simp only [List.length_drop, List.length_take]; rfl)) ?_; (with_reducible refine (spec_l1Max.calls x3_1 t399 t400 _ A6.out).mono ?_); rintro e w' ⟨rfl, ⟨nd, rfl⟩⟩; refine ⟨_, rfl, ?_⟩))
     go_roundg k1
     case measure => have := HK1.out; omega
     case rel => exact ⟨(t400), (wrap64 (x4_1 + 1)), (by first | rfl | (simp; done) | (simp [i64_w, i32_w]; done) | (simp [*]; done)), (by first | rfl | (simp; done) | (simp [i64_w, i32_w]; done) | (simp [*]; done)), H', ⟨by have := HK1.out; omega⟩, ⟨by (with_reducible repeat (first | refine blk_drewN ?_ _ | refine blk_drew ?_ | refine blk_alloc ?_ _)); exact BK397.out⟩, ⟨by repeat (first | (with_reducible first | exact HB.out | apply below_alloc | apply pw_below_drewN | apply below_drew1 | refine below_set ?_ GE397.out) | exact HB.out)⟩⟩
    ·rw [if_neg c4] at H
     exact absurd H (by simp)
   ·rw [if_neg c3] at H
    have c3b0 : decide (x4_1 < (l0_7.length : Int)) = false := decide_eq_false c3
    clear c3
    obtain rfl := Option.some.inj H
    have hcz9_0 : wr.cell? ⟨gb397, 0, none⟩ = some (.int .i64 a0_0) := (blk_cell BK397.out 0).trans rfl
    have hcz9_1 : wr.cell? ⟨gb397, 1, none⟩ = some (.string a0_1) := (blk_cell BK397.out 1).trans rfl
    have hcz9_2 : wr.cell? ⟨gb397, 2, none⟩ = some (.int .i64 a0_2) := (blk_cell BK397.out 2).trans rfl
    have hcz9_3 : wr.cell? ⟨gb397, 3, none⟩ = some (.int .i64 a0_3) := (blk_cell BK397.out 3).trans rfl
    have hcz9_4 : wr.cell? ⟨gb397, 4, none⟩ = some (.slice A0_4 l0_4.length c0_4) := (blk_cell BK397.out 4).trans rfl
    have hcz9_5 : wr.cell? ⟨gb397, 5, none⟩ = some (.slice A0_5 l0_5.length c0_5) := (blk_cell BK397.out 5).trans rfl
    have hcz9_6 : wr.cell? ⟨gb397, 6, none⟩ = some (.slice A0_6 l0_6.length c0_6) := (blk_cell BK397.out 6).trans rfl
    have hcz9_7 : wr.cell? ⟨gb397, 7, none⟩ = some (.slice A0_7 l0_7.length c0_7) := (blk_cell BK397.out 7).trans rfl
    have hfz9_0 := blk_frozen BK397.out 0
    have hfz9_1 := blk_frozen BK397.out 1
    have hfz9_2 := blk_frozen BK397.out 2
    have hfz9_3 := blk_frozen BK397.out 3
    have hfz9_4 := blk_frozen BK397.out 4
    have hfz9_5 := blk_frozen BK397.out 5
    have hfz9_6 := blk_frozen BK397.out 6
    have hfz9_7 := blk_frozen BK397.out 7
    go_wp2
    go_ret
    exact ⟨by first | rfl | (simp [errW_none, errW_some] <;> rfl) | (simp [*, errW_none, errW_some] <;> rfl), by repeat (first | (with_reducible first | exact HB.out | apply below_alloc | apply pw_below_drewN | apply below_drew1 | refine below_set ?_ GE397.out) | exact HB.out)⟩

/-! ### spec_OpArity: function 173 -/
def spec_OpArity.j0 : Nat → ByteArray → Bool → Option (Int)
 | 0, _, _ => none
 | k + 1, x3, x4 => if x4 = true then (some 2) else (if x3.toList = ([33] : List UInt8) then (some 1) else (some 0))
def spec_OpArity.f (k : Nat) (a0 : ByteArray) : Option (Int) := if a0.toList = ([43] : List UInt8) then (spec_OpArity.j0 k a0 (a0.toList == ([43] : List UInt8))) else (if a0.toList = ([45] : List UInt8) then (spec_OpArity.j0 k a0 (a0.toList == ([45] : List UInt8))) else (if a0.toList = ([61] : List UInt8) then (spec_OpArity.j0 k a0 (a0.toList == ([61] : List UInt8))) else (if a0.toList = ([60] : List UInt8) then (spec_OpArity.j0 k a0 (a0.toList == ([60] : List UInt8))) else (if a0.toList = ([38] : List UInt8) then (spec_OpArity.j0 k a0 (a0.toList == ([38] : List UInt8))) else (spec_OpArity.j0 k a0 (a0.toList == ([124] : List UInt8)))))))
set_option maxHeartbeats 8000000 in
set_option maxRecDepth 100000 in
theorem spec_OpArity.calls (k : Nat) (a0 : ByteArray) (r : Int) (w : World) (h : spec_OpArity.f k a0 = some r) :
  Calls Try.prog 173 #[.string a0] w fun e w' => e = .returned (.int .i64 r) ∧ Drawn0 w w' := by
 have H : (if a0.toList = ([43] : List UInt8) then (spec_OpArity.j0 k a0 (a0.toList == ([43] : List UInt8))) else (if a0.toList = ([45] : List UInt8) then (spec_OpArity.j0 k a0 (a0.toList == ([45] : List UInt8))) else (if a0.toList = ([61] : List UInt8) then (spec_OpArity.j0 k a0 (a0.toList == ([61] : List UInt8))) else (if a0.toList = ([60] : List UInt8) then (spec_OpArity.j0 k a0 (a0.toList == ([60] : List UInt8))) else (if a0.toList = ([38] : List UInt8) then (spec_OpArity.j0 k a0 (a0.toList == ([38] : List UInt8))) else (spec_OpArity.j0 k a0 (a0.toList == ([124] : List UInt8)))))))) = some r := h
 clear h
 have HC2 := Aside0.mk H
 clear H
 go_enter Try.func173, Try.ntmps173
 go_upto_if 4 with (fail)
 go_cut [4] (fun v4 wc => ∃ (kq : Nat) (x4_1 : Bool), v4 = .bool x4_1 ∧ Aside0 (spec_OpArity.j0 kq a0 x4_1 = some r) ∧ Aside0 (kq ≤ k) ∧ Drawn0 w wc)
 case first =>
  have H := HC2.out
  clear HC2
  by_cases c3 : a0.toList = ([43] : List UInt8)
  ·rw [if_pos c3] at H
   have c3b0 : (a0.toList == ([43] : List UInt8)) = true := beq_iff_eq.mpr c3
   have c3b1 : (a0.toList != ([43] : List UInt8)) = false := bne_eq_false_iff_eq.mpr c3
   clear c3
   (first | rw [c3b0] | (simp only [i64_w, i32_w]; rw [c3b0]) | (rw [c3b1]; (try simp only [Bool.not_true, Bool.not_false])) | skip)
   have H' := Aside0.mk H
   clear H
   go_wp2
   go_meet
   case rel => exact ⟨_, ((a0.toList == ([43] : List UInt8))), (by first | rfl | (simp; done) | (simp [i64_w, i32_w]; done) | (simp [*]; done)), H', ⟨by first | omega | exact Nat.le_refl _⟩, by repeat (first | exact Drawn0.refl _ | apply Drawn0.step)⟩
  ·rw [if_neg c3] at H
   have c3b0 : (a0.toList == ([43] : List UInt8)) = false := beq_eq_false_iff_ne.mpr c3
   have c3b1 : (a0.toList != ([43] : List UInt8)) = true := bne_iff_ne.mpr c3
   (first | rw [c3b0] | (simp only [i64_w, i32_w]; rw [c3b0]) | (rw [c3b1]; (try simp only [Bool.not_true, Bool.not_false])) | skip)
   by_cases c4 : a0.toList = ([45] : List UInt8)
   ·rw [if_pos c4] at H
    have c4b0 : (a0.toList == ([45] : List UInt8)) = true := beq_iff_eq.mpr c4
    have c4b1 : (a0.toList != ([45] : List UInt8)) = false := bne_eq_false_iff_eq.mpr c4
    clear c4
    have H' := Aside0.mk H
    clear H
    go_wp2
    go_meet
    case rel => exact ⟨_, ((a0.toList == ([45] : List UInt8))), (by first | rfl | (simp; done) | (simp [i64_w, i32_w]; done) | (simp [*]; done)), H', ⟨by first | omega | exact Nat.le_refl _⟩, by repeat (first | exact Drawn0.refl _ | apply Drawn0.step)⟩
   ·rw [if_neg c4] at H
    have c4b0 : (a0.toList == ([45] : List UInt8)) = false := beq_eq_false_iff_ne.mpr c4
    have c4b1 : (a0.toList != ([45] : List UInt8)) = true := bne_iff_ne.mpr c4
    by_cases c5 : a0.toList = ([61] : List UInt8)
    ·rw [if_pos c5] at H
     have c5b0 : (a0.toList == ([61] : List UInt8)) = true := beq_iff_eq.mpr c5
     have c5b1 : (a0.toList != ([61] : List UInt8)) = false := bne_eq_false_iff_eq.mpr c5
     clear c5
     have H' := Aside0.mk H
     clear H
     go_wp2
     go_meet
     case rel => exact ⟨_, ((a0.toList == ([61] : List UInt8))), (by first | rfl | (simp; done) | (simp [i64_w, i32_w]; done) | (simp [*]; done)), H', ⟨by first | omega | exact Nat.le_refl _⟩, by repeat (first | exact Drawn0.refl _ | apply Drawn0.step)⟩
    ·rw [if_neg c5] at H
     have c5b0 : (a0.toList == ([61] : List UInt8)) = false := beq_eq_false_iff_ne.mpr c5
     have c5b1 : (a0.toList != ([61] : List UInt8)) = true := bne_iff_ne.mpr c5
     by_cases c6 : a0.toList = ([60] : List UInt8)
     ·rw [if_pos c6] at H
      have c6b0 : (a0.toList == ([60] : List UInt8)) = true := beq_iff_eq.mpr c6
      have c6b1 : (a0.toList != ([60] : List UInt8)) = false := bne_eq_false_iff_eq.mpr c6
      clear c6
      have H' := Aside0.mk H
      clear H
      go_wp2
      go_meet
      case rel => exact ⟨_, ((a0.toList == ([60] : List UInt8))), (by first | rfl | (simp; done) | (simp [i64_w, i32_w]; done) | (simp [*]; done)), H', ⟨by first | omega | exact Nat.le_refl _⟩, by repeat (first | exact Drawn0.refl _ | apply Drawn0.step)⟩
     ·rw [if_neg c6] at H
      have c6b0 : (a0.toList == ([60] : List UInt8)) = false := beq_eq_false_iff_ne.mpr c6
      have c6b1 : (a0.toList != ([60] : List UInt8)) = true := bne_iff_ne.mpr c6
      by_cases c7 : a0.toList = ([38] : List UInt8)
      ·rw [if_pos c7] at H
       have c7b0 : (a0.toList == ([38] : List UInt8)) = true := beq_iff_eq.mpr c7
       have c7b1 : (a0.toList != ([38] : List UInt8)) = false := bne_eq_false_iff_eq.mpr c7
       clear c7
       have H' := Aside0.mk H
       clear H
       go_wp2
       go_meet
       case rel => exact ⟨_, ((a0.toList == ([38] : List UInt8))), (by first | rfl | (simp; done) | (simp [i64_w, i32_w]; done) | (simp [*]; done)), H', ⟨by first | omega | exact Nat.le_refl _⟩, by repeat (first | exact Drawn0.refl _ | apply Drawn0.step)⟩
      ·rw [if_neg c7] at H
       have c7b0 : (a0.toList == ([38] : List UInt8)) = false := beq_eq_false_iff_ne.mpr c7
       have c7b1 : (a0.toList != ([38] : List UInt8)) = true := bne_iff_ne.mpr c7
       have H' := Aside0.mk H
       clear H
       go_wp2
       go_meet
       case rel => exact ⟨_, ((a0.toList == ([124] : List UInt8))), (by first | rfl | (simp; done) | (simp [i64_w, i32_w]; done) | (simp [*]; done)), H', ⟨by first | omega | exact Nat.le_refl _⟩, by repeat (first | exact Drawn0.refl _ | apply Drawn0.step)⟩
 case rest =>
  clear HC2
  (try clear c1); (try clear p2); (try clear c3); (try clear c3b0); (try clear c3b1); (try clear c4); (try clear c4b0); (try clear c4b1); (try clear c5); (try clear c5b0); (try clear c5b1); (try clear c6); (try clear c6b0); (try clear c6b1); (try clear c7); (try clear c7b0); (try clear c7b1)
  obtain ⟨kq, x4_1, rfl, HA, HJ1, ⟨mc1, rfl⟩⟩ := hcut
  cases kq with
  | zero => exact absurd HA.out (by simp [spec_OpArity.j0])
  | succ kj1 =>
   have H := HA.out
   clear HA
   simp only [spec_OpArity.j0] at H
   by_cases c8 : x4_1 = true
   ·subst c8
    have H1 : (some 2) = some r := by rw [if_pos rfl] at H; exact H
    clear H
    have H := H1
    clear H1
    obtain rfl := Option.some.inj H
    go_wp2
    go_ret
    exact ⟨by first | rfl | (simp; done) | (simp [i64_w, i32_w]; done) | (simp [*]; done), by repeat (first | exact Drawn0.refl _ | apply Drawn0.step)⟩
   ·replace c8 := Bool.eq_false_iff.mpr c8
    subst c8
    have H1 : (if a0.toList = ([33] : List UInt8) then (some 1) else (some 0)) = some r := by rw [if_neg (show ¬ (false = true) by decide)] at H; exact H
    clear H
    have H := H1
    clear H1
    by_cases c9 : a0.toList = ([33] : List UInt8)
    ·rw [if_pos c9] at H
     have c9b0 : (a0.toList == ([33] : List UInt8)) = true := beq_iff_eq.mpr c9
     have c9b1 : (a0.toList != ([33] : List UInt8)) = false := bne_eq_false_iff_eq.mpr c9
     clear c9
     obtain rfl := Option.some.inj H
     go_wp2
     go_ret
     exact ⟨by first | rfl | (simp; done) | (simp [i64_w, i32_w]; done) | (simp [*]; done), by repeat (first | exact Drawn0.refl _ | apply Drawn0.step)⟩
    ·rw [if_neg c9] at H
     have c9b0 : (a0.toList == ([33] : List UInt8)) = false := beq_eq_false_iff_ne.mpr c9
     have c9b1 : (a0.toList != ([33] : List UInt8)) = true := bne_iff_ne.mpr c9
     obtain rfl := Option.some.inj H
     go_wp2
     go_ret
     exact ⟨by first | rfl | (simp; done) | (simp [i64_w, i32_w]; done) | (simp [*]; done), by repeat (first | exact Drawn0.refl _ | apply Drawn0.step)⟩

/-! ### spec_l7Named: function 174 -/
def spec_l7Named.f (a0 : Int) : Option (Bool) := if a0 = 1 then (some true) else (if a0 = 6 then (some true) else (if a0 = 10 then (some true) else (if a0 = 12 then (some true) else (some (a0 == 13)))))
set_option maxHeartbeats 8000000 in
set_option maxRecDepth 100000 in
theorem spec_l7Named.calls (a0 : Int) (r : Bool) (w : World) (h : spec_l7Named.f a0 = some r) :
  Calls Try.prog 174 #[.int .i64 a0] w fun e w' => e = .returned (.bool r) ∧ Drawn0 w w' := by
 have H : (if a0 = 1 then (some true) else (if a0 = 6 then (some true) else (if a0 = 10 then (some true) else (if a0 = 12 then (some true) else (some (a0 == 13)))))) = some r := h
 clear h
 by_cases c2 : a0 = 1
 ·rw [if_pos c2] at H
  have c2b0 : (a0 == 1) = true := beq_iff_eq.mpr c2
  have c2b1 : (a0 != 1) = false := bne_eq_false_iff_eq.mpr c2
  clear c2
  obtain rfl := Option.some.inj H
  go_enter Try.func174, Try.ntmps174
  go_wp2
  go_ret
  exact ⟨by first | rfl | (simp; done) | (simp [i64_w, i32_w]; done) | (simp [*]; done), by repeat (first | exact Drawn0.refl _ | apply Drawn0.step)⟩
 ·rw [if_neg c2] at H
  have c2b0 : (a0 == 1) = false := beq_eq_false_iff_ne.mpr c2
  have c2b1 : (a0 != 1) = true := bne_iff_ne.mpr c2
  by_cases c3 : a0 = 6
  ·rw [if_pos c3] at H
   have c3b0 : (a0 == 6) = true := beq_iff_eq.mpr c3
   have c3b1 : (a0 != 6) = false := bne_eq_false_iff_eq.mpr c3
   clear c3
   obtain rfl := Option.some.inj H
   go_enter Try.func174, Try.ntmps174
   go_wp2
   go_ret
   exact ⟨by first | rfl | (simp; done) | (simp [i64_w, i32_w]; done) | (simp [*]; done), by repeat (first | exact Drawn0.refl _ | apply Drawn0.step)⟩
  ·rw [if_neg c3] at H
   have c3b0 : (a0 == 6) = false := beq_eq_false_iff_ne.mpr c3
   have c3b1 : (a0 != 6) = true := bne_iff_ne.mpr c3
   by_cases c4 : a0 = 10
   ·rw [if_pos c4] at H
    have c4b0 : (a0 == 10) = true := beq_iff_eq.mpr c4
    have c4b1 : (a0 != 10) = false := bne_eq_false_iff_eq.mpr c4
    clear c4
    obtain rfl := Option.some.inj H
    go_enter Try.func174, Try.ntmps174
    go_wp2
    go_ret
    exact ⟨by first | rfl | (simp; done) | (simp [i64_w, i32_w]; done) | (simp [*]; done), by repeat (first | exact Drawn0.refl _ | apply Drawn0.step)⟩
   ·rw [if_neg c4] at H
    have c4b0 : (a0 == 10) = false := beq_eq_false_iff_ne.mpr c4
    have c4b1 : (a0 != 10) = true := bne_iff_ne.mpr c4
    by_cases c5 : a0 = 12
    ·rw [if_pos c5] at H
     have c5b0 : (a0 == 12) = true := beq_iff_eq.mpr c5
     have c5b1 : (a0 != 12) = false := bne_eq_false_iff_eq.mpr c5
     clear c5
     obtain rfl := Option.some.inj H
     go_enter Try.func174, Try.ntmps174
     go_wp2
     go_ret
     exact ⟨by first | rfl | (simp; done) | (simp [i64_w, i32_w]; done) | (simp [*]; done), by repeat (first | exact Drawn0.refl _ | apply Drawn0.step)⟩
    ·rw [if_neg c5] at H
     have c5b0 : (a0 == 12) = false := beq_eq_false_iff_ne.mpr c5
     have c5b1 : (a0 != 12) = true := bne_iff_ne.mpr c5
     obtain rfl := Option.some.inj H
     go_enter Try.func174, Try.ntmps174
     go_wp2
     go_ret
     exact ⟨by first | rfl | (simp; done) | (simp [i64_w, i32_w]; done) | (simp [*]; done), by repeat (first | exact Drawn0.refl _ | apply Drawn0.step)⟩

end Go.Proofs.Ytppgalehaiagaaa.Px
