/- Printed by a program of this session: what functions of the translation come to, each contract as it stands. No condition. -/
import Derived.Test.YtcgdaeaaimkhdaaZRowsOfExtM
import Derived.Test.YtcgdaeaaimkhdaaZRowsOfPy17
import Derived.Test.YtcgdaeaaimkhdaaZRowsOfPy15
import Derived.Test.YtcgdaeaaimkhdaaZRowsOfPlM
import Derived.Test.YtcgdaeaaimkhdaaZRowsOfPy14M
import Derived.Test.YtcgdaeaaimkhdaaZRowsOfPy16
import Derived.Test.YtcgdaeaaimkhdaaZRowsOfWLastM
section
namespace Go.Proofs.Ytcgdaeaaimkhdaa.Py
open Go.RowKit Go.Proofs.Ytcgdaeaaimkhdaa.Ext Go.Proofs.YtcgdaeaaimkhdaaW.PrintWords Go.Proofs.YtcgdaeaaimkhdaaW.PrintLast Go.Proofs.YtcgdaeaaimkhdaaW.PrintMore
attribute [local go_sem] max2_int min2_int max_two min_two max_three min_three max_four min_four   -- for this text's walks alone
set_option linter.unusedVariables false
set_option linter.unusedSimpArgs false

/-! ### impl_cloneValues: function 83 -/
def impl_cloneValues.l0 : Nat → List (S70) → List (S70) → Int → Int → Option ((List (S70)))
  | 0, _, _, _, _ => none
  | k + 1, x3, x7, x8, x9 => if x9 < x8 then (if 0 ≤ x9 then (if x9 < (x7.length : Int) then ((impl_cloneValue.f k ((rd_T70 x7 x9).f0) ((rd_T70 x7 x9).f1) ((rd_T70 x7 x9).f2) ((rd_T70 x7 x9).f3)).bind fun bt490 => (if x3.length < 2199023255552 then (impl_cloneValues.l0 k (x3 ++ [(⟨bt490.1, bt490.2.1, bt490.2.2.1, bt490.2.2.2⟩ : S70)]) x7 x8 (wrap64 (x9 + 1))) else (none))) else (none)) else (none)) else (some x3)
def impl_cloneValues.f (k : Nat) (l0 : List (S70)) : Option ((List (S70))) := impl_cloneValues.l0 k (([] : List (S70))) l0 (l0.length : Int) 0
set_option maxHeartbeats 8000000 in
set_option maxRecDepth 100000 in
theorem impl_cloneValues.calls (k : Nat) (A0 : Option Addr) (c0 : Nat) (l0 : List (S70)) (r : List (S70)) (w : World) (hr0 : Kd.C k70 w A0 l0.length l0) (hc0 : l0.length ≤ c0) (h : impl_cloneValues.f k l0 = some r) :
    Calls Try.prog 83 #[.slice A0 l0.length c0] w fun e w' => ∃ v0_ : Value, e = .returned (v0_) ∧ Kd.S k70 70 w' w.heap.size (fun _ => True) v0_ r ∧ Below w.heap.size w w' := by
  have hu70 := Try.underlying70
  have HR0 := Aside0.mk hr0
  have HC0 := Aside0.mk hc0
  clear hr0 hc0
  have HB := Aside0.mk (Below.refl w.heap.size w)
  have H : (impl_cloneValues.l0 k (([] : List (S70))) l0 (l0.length : Int) 0) = some r := h
  clear h
  obtain ⟨y485, hy485⟩ : ∃ y_ : List (S70), y_ = (([] : List (S70))) := ⟨_, rfl⟩
  replace H : (impl_cloneValues.l0 k y485 l0 (l0.length : Int) 0) = some r := by first | (rw [hy485]; with_reducible exact H) | (have H2_ := (Option.bind_some _ _).symm.trans H; rw [hy485]; with_reducible exact H2_) | (have H2_ := (Option.bind_some _ _).symm.trans H; with_reducible exact H2_) | with_reducible exact H | (rw [hy485]; exact H) | exact H
  have Ny485 := Aside0.mk hy485
  clear hy485
  have H' := Aside0.mk H
  clear H
  go_enter Try.func83, Try.ntmps83
  go_wp2_with (first | ((with_reducible refine gate_dst (N := 6) rfl ?_); refine Kd.S_lit k70 _ 70 ?hg (N := 6) ?hd (xs := ([] : List (S70))) (inner := []) (ok := fun _ => True) (okp := fun _ => True) ?hr ?hp (fun _ hk => hk) trivial (Below.refl _ _) (Nat.le_refl _) (by simp) ?_; (case hd => rfl); (case hg => rfl); (case hr => first | (go_simp; done) | (go_simp; rfl)); (case hp => exact (Reps.none _ _)); intro v486 w2 ho3 hb hg_ hnew_; clear hg_ hnew_; (first | rw [← Ny485.out] at ho3 | (simp only [Int.reduceToNat] at ho3; rw [← Ny485.out] at ho3)); have n0_ := Aside0.mk (Kd.S_lower ho3 (below_size (by repeat (first | (with_reducible first | exact HB.out | apply below_alloc | apply pw_below_drewN | apply below_drew1) | exact HB.out)))); have n1_ := Aside0.mk (below_step (by repeat (first | (with_reducible first | exact HB.out | apply below_alloc | apply pw_below_drewN | apply below_drew1) | exact HB.out)) hb); clear HB; have HO487 := n0_; have HB := n1_; clear n0_ n1_; clear hb ho3))
  go_loopg [3, 9] k (fun kq v3 v9 w' => ∃ (x3_1 : List (S70)) (x9_1 : Int), v9 = .int .i64 x9_1 ∧ Aside0 (impl_cloneValues.l0 kq x3_1 l0 (l0.length : Int) x9_1 = some r) ∧ Aside0 (kq ≤ k) ∧ Aside0 (Kd.S k70 70 w' w.heap.size (fun _ => True) v3 x3_1) ∧ Aside0 (Below w.heap.size w w'))
  case atStart => exact ⟨(y485), (0), (by first | rfl | (simp; done) | (simp [i64_w, i32_w]; done) | (simp [*]; done)), H', ⟨Nat.le_refl _⟩, ⟨by (with_reducible repeat (first | apply Kd.S_alloc | apply Kd.S_drewN | apply Kd.S_drew)); exact HO487.out⟩, ⟨by repeat (first | (with_reducible first | exact HB.out | apply below_alloc | apply pw_below_drewN | apply below_drew1) | exact HB.out)⟩⟩
  case round =>
    clear H'
    try clear p2
    obtain ⟨x3_1, x9_1, rfl, HA, HK1, HO_3, HB⟩ := hrel
    cases gk with
    | zero => exact absurd HA.out (by simp [impl_cloneValues.l0])
    | succ k1 =>
      have H := HA.out
      clear HA
      simp only [impl_cloneValues.l0] at H
      by_cases c4 : x9_1 < (l0.length : Int)
      · rw [if_pos c4] at H
        have c4b0 : decide (x9_1 < (l0.length : Int)) = true := decide_eq_true c4
        clear c4
        by_cases c5 : 0 ≤ x9_1
        · rw [if_pos c5] at H
          have c5b0 : decide (0 ≤ x9_1) = true := decide_eq_true c5
          clear c5
          by_cases c6 : x9_1 < (l0.length : Int)
          · rw [if_pos c6] at H
            have c6b0 : decide (x9_1 < (l0.length : Int)) = true := decide_eq_true c6
            clear c6
            replace H := Option.bind_eq_some_iff.mp H
            obtain ⟨⟨t490, t491, t492, t495⟩, A70, H⟩ := H
            replace H : (if x3_1.length < 2199023255552 then (impl_cloneValues.l0 k1 (x3_1 ++ [(⟨t490, t491, t492, t495⟩ : S70)]) l0 (l0.length : Int) (wrap64 (x9_1 + 1))) else (none)) = some r := H
            have A7 := Aside0.mk A70
            clear A70
            by_cases c8 : x3_1.length < 2199023255552
            · rw [if_pos c8] at H
              have LMc8 := Aside0.mk c8
              clear c8
              obtain ⟨y498, hy498⟩ : ∃ y_ : List (S70), y_ = (x3_1 ++ [(⟨t490, t491, t492, t495⟩ : S70)]) := ⟨_, rfl⟩
              replace H : (impl_cloneValues.l0 k1 y498 l0 (l0.length : Int) (wrap64 (x9_1 + 1))) = some r := by first | (rw [hy498]; with_reducible exact H) | (have H2_ := (Option.bind_some _ _).symm.trans H; rw [hy498]; with_reducible exact H2_) | (have H2_ := (Option.bind_some _ _).symm.trans H; with_reducible exact H2_) | with_reducible exact H | (rw [hy498]; exact H) | exact H
              have Ny498 := Aside0.mk hy498
              clear hy498
              have H' := Aside0.mk H
              clear H
              have p488 : 0 ≤ (x9_1 : Int) := of_decide_eq_true (by first | (with_reducible assumption) | assumption)
              have q488 : x9_1 < (l0.length : Int) := of_decide_eq_true (by first | (with_reducible assumption) | assumption)
              obtain ⟨ad488, A488_2, c488_2, A488_3, c488_3, e488, hx488_0, hx488_1, hx488_2, hx488_3, hl488_2, hi488_2, hl488_3, hi488_3⟩ := at_T70 HR0.out x9_1 p488 q488
              cases e488
              replace hx488_0 := (HB.out.cell (World.block_lt_of_cell? w _ hx488_0)).trans hx488_0
              replace hx488_1 := (HB.out.cell (World.block_lt_of_cell? w _ hx488_1)).trans hx488_1
              replace hx488_2 := (HB.out.cell (World.block_lt_of_cell? w _ hx488_2)).trans hx488_2
              replace hx488_3 := (HB.out.cell (World.block_lt_of_cell? w _ hx488_3)).trans hx488_3
              have HR488_2 := Aside0.mk hi488_2
              have HC488_2 := Aside0.mk hl488_2
              clear hi488_2 hl488_2
              have HR488_3 := Aside0.mk hi488_3
              have HC488_3 := Aside0.mk hl488_3
              clear hi488_3 hl488_3
              replace p488 := eq_true p488
              replace q488 := eq_true q488
              go_wp2_with (first | ((with_reducible refine gate_dst (N := 5) rfl ?_); refine box_event ?hg (N := 5) ?hd (cs := #[.int .i64 0, .int .i64 0, .slice none 0 0, .slice none 0 0]) (t := 70) ?hr ?_; (case hd => rfl); (case hg => rfl); (case hr => first | (go_simp; done) | (go_simp; rfl)); intro gb489 hg w9 hbox hb; have n0_ := Aside0.mk (Kd.S_below (Kd.S_elderB (by (with_reducible repeat (first | apply Kd.S_alloc | apply Kd.S_drewN | apply Kd.S_drew)); exact HO_3.out) gb489 (Nat.le_of_eq hg.symm)) hb); have n1_ := Aside0.mk (below_step (by repeat (first | (with_reducible first | exact HB.out | apply below_alloc | apply pw_below_drewN | apply below_drew1) | exact HB.out)) hb); have n2_ := Aside0.mk (hbox); have n3_ := Aside0.mk ((by rw [hg]; exact (below_size (by repeat (first | (with_reducible first | exact HB.out | apply below_alloc | apply pw_below_drewN | apply below_drew1) | exact HB.out))) : w.heap.size ≤ gb489)); have n4_ := Aside0.mk ((by rw [hg]; exact (below_size (by repeat (first | (with_reducible first | exact HB.out | apply below_alloc | apply pw_below_drewN | apply below_drew1) | exact HB.out))) : w.heap.size ≤ gb489)); clear HO_3; clear HB; have HO_3 := n0_; have HB := n1_; have BK489 := n2_; have GW489 := n3_; have GE489 := n4_; clear n0_ n1_ n2_ n3_ n4_; clear hb hbox hg; have hcz10_0 : w9.cell? ⟨gb489, 0, none⟩ = some (.int .i64 0) := (blk_cell BK489.out 0).trans rfl; have hcz10_1 : w9.cell? ⟨gb489, 1, none⟩ = some (.int .i64 0) := (blk_cell BK489.out 1).trans rfl; have hcz10_2 : w9.cell? ⟨gb489, 2, none⟩ = some (.slice none 0 0) := (blk_cell BK489.out 2).trans rfl; have hcz10_3 : w9.cell? ⟨gb489, 3, none⟩ = some (.slice none 0 0) := (blk_cell BK489.out 3).trans rfl; have hfz10_0 := blk_frozen BK489.out 0; have hfz10_1 := blk_frozen BK489.out 1; have hfz10_2 := blk_frozen BK489.out 2; have hfz10_3 := blk_frozen BK489.out 3) | ((with_reducible refine gate_callee (f := 116) rfl ?_); refine goesL_ (some 15) rfl rfl Try.func116 (by kernel_rfl) rfl #[.agg #[.int .i64 ((rd_T70 l0 x9_1).f0), .int .i64 ((rd_T70 l0 x9_1).f1), .slice A488_2 ((rd_T70 l0 x9_1).f2).length c488_2, .slice A488_3 ((rd_T70 l0 x9_1).f3).length c488_3]] rfl (by (try simp only [List.map_toArray, List.map_cons, List.map_nil]); first | done | rfl | (simp only [List.length_drop, List.length_take]; rfl)) ?_; (with_reducible refine (impl_cloneValue.calls k1 ((rd_T70 l0 x9_1).f0) ((rd_T70 l0 x9_1).f1) _ _ ((rd_T70 l0 x9_1).f2) _ _ ((rd_T70 l0 x9_1).f3) t490 t491 t492 t495 _ ?side1 ?side2 ?side3 ?side4 A7.out).mono ?_); (case side1 => exact Kd.C_below HR488_2.out (by repeat (first | (with_reducible first | exact HB.out | apply below_alloc | apply pw_below_drewN | apply below_drew1 | refine below_set ?_ GE489.out) | exact HB.out))); (case side2 => exact HC488_2.out); (case side3 => exact Kd.C_below HR488_3.out (by repeat (first | (with_reducible first | exact HB.out | apply below_alloc | apply pw_below_drewN | apply below_drew1 | refine below_set ?_ GE489.out) | exact HB.out))); (case side4 => exact HC488_3.out); rintro e w11 ⟨v493, v496, rfl, ho0, ho1, hb⟩; refine ⟨_, rfl, ?_⟩; obtain ⟨N12, EN12⟩ := Ow.name_size hb; have n0_ := Aside0.mk (Ow.S_ltN (Kd.S_told (Kd.S_told (Kd.S_old (by (with_reducible repeat (first | apply Kd.S_alloc | apply Kd.S_drewN | apply Kd.S_drew)); exact (Kd.S_mono (Kd.S_far (p := ⟨gb489, 3, none⟩) (Kd.S_far (p := ⟨gb489, 2, none⟩) (Kd.S_far (p := ⟨gb489, 1, none⟩) (Kd.S_far (p := ⟨gb489, 0, none⟩) (Kd.S_mono HO_3.out (fun k_ hk => (⟨hk, hk.2⟩ : _ ∧ k_ ≠ gb489))) (fun _ hk => hk.2) (.int .i64 ((rd_T70 l0 x9_1).f0))) (fun _ hk => hk.2) (.int .i64 ((rd_T70 l0 x9_1).f1))) (fun _ hk => hk.2) (.slice A488_2 ((rd_T70 l0 x9_1).f2).length c488_2)) (fun _ hk => hk.2) (.slice A488_3 ((rd_T70 l0 x9_1).f3).length c488_3)) (fun _ h_ => h_.1))) hb) (Kd.R_base ho0)) (Kd.S_base ho1)) EN12.out); have n1_ := Aside0.mk (Kd.R_lower (Ow.R_geN ho0 EN12.out) (below_size (by repeat (first | (with_reducible first | exact HB.out | apply below_alloc | apply pw_below_drewN | apply below_drew1 | refine below_set ?_ GE489.out) | exact HB.out)))); have n2_ := Aside0.mk (Kd.S_lower (Ow.S_geN (Kd.S_newB (Kd.S_new' ho1 (Kd.S_lt (by (with_reducible repeat (first | apply Kd.S_alloc | apply Kd.S_drewN | apply Kd.S_drew)); exact (Kd.S_mono (Kd.S_far (p := ⟨gb489, 3, none⟩) (Kd.S_far (p := ⟨gb489, 2, none⟩) (Kd.S_far (p := ⟨gb489, 1, none⟩) (Kd.S_far (p := ⟨gb489, 0, none⟩) (Kd.S_mono HO_3.out (fun k_ hk => (⟨hk, hk.2⟩ : _ ∧ k_ ≠ gb489))) (fun _ hk => hk.2) (.int .i64 ((rd_T70 l0 x9_1).f0))) (fun _ hk => hk.2) (.int .i64 ((rd_T70 l0 x9_1).f1))) (fun _ hk => hk.2) (.slice A488_2 ((rd_T70 l0 x9_1).f2).length c488_2)) (fun _ hk => hk.2) (.slice A488_3 ((rd_T70 l0 x9_1).f3).length c488_3)) (fun _ h_ => h_.1))))) (g := gb489) (o := .cells #[.int .i64 ((rd_T70 l0 x9_1).f0), .int .i64 ((rd_T70 l0 x9_1).f1), .slice A488_2 ((rd_T70 l0 x9_1).f2).length c488_2, .slice A488_3 ((rd_T70 l0 x9_1).f3).length c488_3] 70 (0, 0)) (by (with_reducible repeat (first | refine blk_drewN ?_ _ | refine blk_drew ?_ | refine blk_alloc ?_ _)); refine blk_put (cs := #[.int .i64 ((rd_T70 l0 x9_1).f0), .int .i64 ((rd_T70 l0 x9_1).f1), .slice A488_2 ((rd_T70 l0 x9_1).f2).length c488_2, .slice none 0 0]) ?_ 3 _ rfl; (with_reducible repeat (first | refine blk_drewN ?_ _ | refine blk_drew ?_ | refine blk_alloc ?_ _)); refine blk_put (cs := #[.int .i64 ((rd_T70 l0 x9_1).f0), .int .i64 ((rd_T70 l0 x9_1).f1), .slice none 0 0, .slice none 0 0]) ?_ 2 _ rfl; (with_reducible repeat (first | refine blk_drewN ?_ _ | refine blk_drew ?_ | refine blk_alloc ?_ _)); refine blk_put (cs := #[.int .i64 ((rd_T70 l0 x9_1).f0), .int .i64 0, .slice none 0 0, .slice none 0 0]) ?_ 1 _ rfl; (with_reducible repeat (first | refine blk_drewN ?_ _ | refine blk_drew ?_ | refine blk_alloc ?_ _)); refine blk_put (cs := #[.int .i64 0, .int .i64 0, .slice none 0 0, .slice none 0 0]) ?_ 0 _ rfl; (with_reducible repeat (first | refine blk_drewN ?_ _ | refine blk_drew ?_ | refine blk_alloc ?_ _)); exact BK489.out)) EN12.out) (below_size (by repeat (first | (with_reducible first | exact HB.out | apply below_alloc | apply pw_below_drewN | apply below_drew1 | refine below_set ?_ GE489.out) | exact HB.out)))); have n3_ := Aside0.mk (blk_below (g := gb489) (o := .cells #[.int .i64 ((rd_T70 l0 x9_1).f0), .int .i64 ((rd_T70 l0 x9_1).f1), .slice A488_2 ((rd_T70 l0 x9_1).f2).length c488_2, .slice A488_3 ((rd_T70 l0 x9_1).f3).length c488_3] 70 (0, 0)) (by (with_reducible repeat (first | refine blk_drewN ?_ _ | refine blk_drew ?_ | refine blk_alloc ?_ _)); refine blk_put (cs := #[.int .i64 ((rd_T70 l0 x9_1).f0), .int .i64 ((rd_T70 l0 x9_1).f1), .slice A488_2 ((rd_T70 l0 x9_1).f2).length c488_2, .slice none 0 0]) ?_ 3 _ rfl; (with_reducible repeat (first | refine blk_drewN ?_ _ | refine blk_drew ?_ | refine blk_alloc ?_ _)); refine blk_put (cs := #[.int .i64 ((rd_T70 l0 x9_1).f0), .int .i64 ((rd_T70 l0 x9_1).f1), .slice none 0 0, .slice none 0 0]) ?_ 2 _ rfl; (with_reducible repeat (first | refine blk_drewN ?_ _ | refine blk_drew ?_ | refine blk_alloc ?_ _)); refine blk_put (cs := #[.int .i64 ((rd_T70 l0 x9_1).f0), .int .i64 0, .slice none 0 0, .slice none 0 0]) ?_ 1 _ rfl; (with_reducible repeat (first | refine blk_drewN ?_ _ | refine blk_drew ?_ | refine blk_alloc ?_ _)); refine blk_put (cs := #[.int .i64 0, .int .i64 0, .slice none 0 0, .slice none 0 0]) ?_ 0 _ rfl; (with_reducible repeat (first | refine blk_drewN ?_ _ | refine blk_drew ?_ | refine blk_alloc ?_ _)); exact BK489.out) hb); have n4_ := Aside0.mk (below_step (by repeat (first | (with_reducible first | exact HB.out | apply below_alloc | apply pw_below_drewN | apply below_drew1 | refine below_set ?_ GE489.out) | exact HB.out)) hb); clear HO_3; clear BK489; clear HB; have HO_3 := n0_; have HO494 := n1_; have HO497 := n2_; have BK489 := n3_; have HB := n4_; clear n0_ n1_ n2_ n3_ n4_; (try clear hb); (try clear hb2); (try clear hk); (try clear hi); (try clear ho0); (try clear ho1); obtain ⟨Ao14, co14, eo14⟩ := Kd.R_slice HO494.out; subst eo14; obtain ⟨Ao15, co15, eo15⟩ := Kd.S_slice HO497.out; subst eo15) | ((with_reducible refine gate_builtin (b := .append) (xs := #[.tmp 13, .tmp 16]) rfl ?_); at_builtin; refine Kd.S_append k70 (w0 := w) w.heap.size rfl (.tmp 13) (.tmp 16) 59 70 (.agg #[(.int .i64 0), (.int .i64 0), (.slice none 0 0), (.slice none 0 0)]) 64 rfl Try.underlying59 info70 rfl (by decide) (by omega) u3 x3_1 (⟨t490, t491, t492, t495⟩ : S70) [.int .i64 t490, .int .i64 t491, .slice Ao14 t492.length co14, .slice Ao15 t495.length co15] (fun k_ => k_ ≠ gb489) (fun k_ => N12 ≤ k_ ∧ ((fun k_ => k_ ≠ gb489)) k_ ∧ some k_ ≠ (u3 : Value).ownBlock) rfl rfl ?aP (fun _ hk => ⟨hk.2.1, hk.2.2⟩) ?aF ?aO ?aB ?aS ?aL ?_; (case aP => exact k70_mkA _ _ _ (⟨t490, t491, t492, t495⟩ : S70) (Kd.R_mono (Kd.R_types (Kd.R_apart' (HO494.out) (Kd.S_typed HO_3.out) (by decide)) BK489.out (by decide)) (fun k_ hk => ⟨hk.1.1.2, hk.2, hk.1.2⟩)) (Kd.S_mono (HO497.out) (fun k_ hk => ⟨⟨hk.2, hk.1.2, hk.1.1.2⟩, hk.1.1.1⟩))); (case aB => exact (by repeat (first | (with_reducible first | exact HB.out | apply below_alloc | apply pw_below_drewN | apply below_drew1 | refine below_set ?_ GE489.out) | exact HB.out))); (case aF => exact (fun k_ hk => Kd.freshB (g := gb489) (o := .cells #[.int .i64 ((rd_T70 l0 x9_1).f0), .int .i64 ((rd_T70 l0 x9_1).f1), .slice A488_2 ((rd_T70 l0 x9_1).f2).length c488_2, .slice A488_3 ((rd_T70 l0 x9_1).f3).length c488_3] 70 (0, 0)) (by (with_reducible repeat (first | refine blk_drewN ?_ _ | refine blk_drew ?_ | refine blk_alloc ?_ _)); exact BK489.out) k_ hk)); (case aO => exact (by (with_reducible repeat (first | apply Kd.S_alloc | apply Kd.S_drewN | apply Kd.S_drew)); exact Kd.S_mono HO_3.out (fun k_ hk => ⟨hk.1.1.1.2, fun e_ => Nat.not_le_of_lt (hk.2) e_.1⟩))); (case aS => exact (below_size (by repeat (first | (with_reducible first | exact HB.out | apply below_alloc | apply pw_below_drewN | apply below_drew1 | refine below_set ?_ GE489.out) | exact HB.out)))); (case aL => have := LMc8.out; omega); intro v499 w13 ho hb hg hat; rw [← Ny498.out] at ho; have n0_ := Aside0.mk (blk_grown (g := gb489) (o := .cells #[.int .i64 ((rd_T70 l0 x9_1).f0), .int .i64 ((rd_T70 l0 x9_1).f1), .slice A488_2 ((rd_T70 l0 x9_1).f2).length c488_2, .slice A488_3 ((rd_T70 l0 x9_1).f3).length c488_3] 70 (0, 0)) (by (with_reducible repeat (first | refine blk_drewN ?_ _ | refine blk_drew ?_ | refine blk_alloc ?_ _)); exact BK489.out) hg (Kd.S_away HO_3.out (fun _ hk => hk.1.1.1.2))); have n1_ := Aside0.mk (hb); have n2_ := Aside0.mk (ho); clear BK489; clear HB; clear HO_3; clear HO494; clear HO497; have BK489 := n0_; have HB := n1_; have HO500 := n2_; clear n0_ n1_ n2_; clear ho hb hg hat))
              go_roundg k1
              case measure => have := HK1.out; omega
              case rel => exact ⟨(y498), (wrap64 (x9_1 + 1)), (by first | rfl | (simp; done) | (simp [i64_w, i32_w]; done) | (simp [*]; done)), H', ⟨by have := HK1.out; omega⟩, ⟨by (with_reducible repeat (first | apply Kd.S_alloc | apply Kd.S_drewN | apply Kd.S_drew)); exact Kd.S_mono HO500.out (fun _ hk => trivial)⟩, ⟨by repeat (first | (with_reducible first | exact HB.out | apply below_alloc | apply pw_below_drewN | apply below_drew1 | refine below_set ?_ GE489.out) | exact HB.out)⟩⟩
            · rw [if_neg c8] at H
              exact absurd H (by simp)
          · rw [if_neg c6] at H
            exact absurd H (by simp)
        · rw [if_neg c5] at H
          exact absurd H (by simp)
      · rw [if_neg c4] at H
        have c4b0 : decide (x9_1 < (l0.length : Int)) = false := decide_eq_false c4
        clear c4
        obtain rfl := Option.some.inj H
        go_wp2
        go_ret
        exact ⟨_, by first | rfl | (simp [errW_none, errW_some] <;> rfl) | (simp [*, errW_none, errW_some] <;> rfl), by (with_reducible repeat (first | apply Kd.S_alloc | apply Kd.S_drewN | apply Kd.S_drew)); exact HO_3.out, by repeat (first | (with_reducible first | exact HB.out | apply below_alloc | apply pw_below_drewN | apply below_drew1) | exact HB.out)⟩

/-! ### impl_rowsOf: function 84 -/
def impl_rowsOf.l0 : Nat → ByteArray → List (S107) → Int → Int → Option ((List (S70)))
  | 0, _, _, _, _ => none
  | k + 1, x1, x8, x9, x10 => if x10 < x9 then (if 0 ≤ x10 then (if x10 < (x8.length : Int) then (if ((rd_T107 x8 x10).f0).toList = x1.toList then (some ((rd_T107 x8 x10).f1)) else (impl_rowsOf.l0 k x1 x8 x9 (wrap64 (x10 + 1)))) else (none)) else (none)) else (some ([] : List (S70)))
def impl_rowsOf.f (k : Nat) (l0_0 : List (S107)) (a1 : ByteArray) : Option ((List (S70))) := impl_rowsOf.l0 k a1 l0_0 (l0_0.length : Int) 0
set_option maxHeartbeats 8000000 in
set_option maxRecDepth 100000 in
theorem impl_rowsOf.calls (k : Nat) (P0_0_ : Nat → Prop) (A0_0 : Option Addr) (c0_0 : Nat) (l0_0 : List (S107)) (a1 : ByteArray) (r : List (S70)) (w : World) (hs0_0 : Kd.V k107 107 w w.heap.size (fun k_ => P0_0_ k_) (.slice A0_0 l0_0.length c0_0) l0_0) (h : impl_rowsOf.f k l0_0 a1 = some r) :
    Calls Try.prog 84 #[.agg #[.slice A0_0 l0_0.length c0_0], .string a1] w fun e w' => ∃ v0_ : Value, e = .returned (v0_) ∧ Kd.V k70 70 w' w.heap.size (fun k_ => (P0_0_ k_ ∨ w.heap.size ≤ k_)) v0_ r ∧ Below w.heap.size w w' := by
  have hu50 := Try.underlying50
  have hu107 := Try.underlying107
  have HO0_0 := Aside0.mk (show Kd.V k107 107 w w.heap.size (fun k_ => (P0_0_ k_ ∨ w.heap.size ≤ k_)) (.slice A0_0 l0_0.length c0_0) l0_0 from Kd.V_mono hs0_0 (fun k_ hk => .inl hk))
  have HB := Aside0.mk (Below.refl w.heap.size w)
  have H : (impl_rowsOf.l0 k a1 l0_0 (l0_0.length : Int) 0) = some r := h
  clear h
  have H' := Aside0.mk H
  clear H
  go_enter Try.func84, Try.ntmps84
  go_wp2_with (first | ((with_reducible refine gate_dst (N := 2) rfl ?_); refine box_event ?hg (N := 2) ?hd (cs := #[.slice A0_0 l0_0.length c0_0]) (t := 50) ?hr ?_; (case hd => rfl); (case hg => rfl); (case hr => first | (go_simp; done) | (go_simp; rfl)); intro gb501 hg w3 hbox hb; have n0_ := Aside0.mk (Kd.V_below (Kd.V_elderB (by (with_reducible repeat (first | apply Kd.V_alloc | apply Kd.V_drewN | apply Kd.V_drew)); exact HO0_0.out) gb501 (Nat.le_of_eq hg.symm)) hb); have n1_ := Aside0.mk (below_step (by repeat (first | (with_reducible first | exact HB.out | apply below_alloc | apply pw_below_drewN | apply below_drew1) | exact HB.out)) hb); have n2_ := Aside0.mk (hbox); have n3_ := Aside0.mk ((by rw [hg]; exact (below_size (by repeat (first | (with_reducible first | exact HB.out | apply below_alloc | apply pw_below_drewN | apply below_drew1) | exact HB.out))) : w.heap.size ≤ gb501)); have n4_ := Aside0.mk ((by rw [hg]; exact (below_size (by repeat (first | (with_reducible first | exact HB.out | apply below_alloc | apply pw_below_drewN | apply below_drew1) | exact HB.out))) : w.heap.size ≤ gb501)); clear HO0_0; clear HB; have HO0_0 := n0_; have HB := n1_; have BK501 := n2_; have GW501 := n3_; have GE501 := n4_; clear n0_ n1_ n2_ n3_ n4_; clear hb hbox hg; have hcz4_0 : w3.cell? ⟨gb501, 0, none⟩ = some (.slice A0_0 l0_0.length c0_0) := (blk_cell BK501.out 0).trans rfl; have hfz4_0 := blk_frozen BK501.out 0))
  go_loopg [10] k (fun kq v10 w' => ∃ (x10_1 : Int), v10 = .int .i64 x10_1 ∧ Aside0 (impl_rowsOf.l0 kq a1 l0_0 (l0_0.length : Int) x10_1 = some r) ∧ Aside0 (kq ≤ k) ∧ Aside0 (Kd.V k107 107 w' w.heap.size (fun k_ => (P0_0_ k_ ∨ w.heap.size ≤ k_) ∧ k_ ≠ gb501) (.slice A0_0 l0_0.length c0_0) l0_0) ∧ Aside0 (Kd.V k107 107 w' w.heap.size (fun k_ => (P0_0_ k_ ∨ w.heap.size ≤ k_) ∧ k_ ≠ gb501) (.slice A0_0 l0_0.length c0_0) l0_0) ∧ Aside0 (w'.heap[gb501]? = some (.cells #[(.slice A0_0 l0_0.length c0_0)] 50 (0, 0))) ∧ Aside0 (Below w.heap.size w w'))
  case atStart => exact ⟨(0), (by first | rfl | (simp; done) | (simp [i64_w, i32_w]; done) | (simp [*]; done)), H', ⟨Nat.le_refl _⟩, ⟨by (with_reducible repeat (first | apply Kd.V_alloc | apply Kd.V_drewN | apply Kd.V_drew)); exact HO0_0.out⟩, ⟨by (with_reducible repeat (first | apply Kd.V_alloc | apply Kd.V_drewN | apply Kd.V_drew)); exact HO0_0.out⟩, ⟨by (with_reducible repeat (first | refine blk_drewN ?_ _ | refine blk_drew ?_ | refine blk_alloc ?_ _)); exact BK501.out⟩, ⟨by repeat (first | (with_reducible first | exact HB.out | apply below_alloc | apply pw_below_drewN | apply below_drew1 | refine below_set ?_ GE501.out) | exact HB.out)⟩⟩
  case round =>
    clear H'
    try clear p2
    try clear hcz4_0
    try clear hfz4_0
    obtain ⟨x10_1, rfl, HA, HK1, HO_8, HO_502000, BK501, HB⟩ := hrel
    cases gk with
    | zero => exact absurd HA.out (by simp [impl_rowsOf.l0])
    | succ k1 =>
      have H := HA.out
      clear HA
      simp only [impl_rowsOf.l0] at H
      by_cases c5 : x10_1 < (l0_0.length : Int)
      · rw [if_pos c5] at H
        have c5b0 : decide (x10_1 < (l0_0.length : Int)) = true := decide_eq_true c5
        clear c5
        by_cases c6 : 0 ≤ x10_1
        · rw [if_pos c6] at H
          have c6b0 : decide (0 ≤ x10_1) = true := decide_eq_true c6
          clear c6
          by_cases c7 : x10_1 < (l0_0.length : Int)
          · rw [if_pos c7] at H
            have c7b0 : decide (x10_1 < (l0_0.length : Int)) = true := decide_eq_true c7
            clear c7
            have HC8 := Aside0.mk H
            clear H
            have p502 : 0 ≤ (x10_1 : Int) := of_decide_eq_true (by first | (with_reducible assumption) | assumption)
            have q502 : x10_1 < (l0_0.length : Int) := of_decide_eq_true (by first | (with_reducible assumption) | assumption)
            obtain ⟨ad502, A502_1, c502_1, e502, hx502_0, hx502_1, hl502_1, hi502_1⟩ := at_T107 (Kd.V_reads' HO_8.out).2.2 x10_1 p502 q502
            cases e502
            obtain ⟨ce502, hce502, hMe502, hcc502⟩ := Kd.V_get HO_8.out z107 x10_1 p502 (by first | exact q502 | exact of_decide_eq_true (by first | (with_reducible assumption) | assumption) | (have e_ := (Kd.V_reads' HO_8.out).1; omega))
            obtain ⟨ua502_1, uc502_1, rfl, ul502_1, ge502_1⟩ := k107_openF hMe502
            have hv502_1 := hcc502 1 _ rfl
            rw [add_field _ _ 1 (by omega)] at hv502_1
            replace hv502_1 := Option.some.inj (hv502_1.symm.trans hx502_1)
            injection hv502_1 with hva_ hvn_ hvc_
            rw [hva_] at ge502_1
            rw [hvc_] at ul502_1
            have HL502_1 := Aside0.mk (show Kd.V k70 70 _ w.heap.size _ _ ((rd_T107 l0_0 x10_1).f1) from Kd.V_mk ul502_1 ge502_1)
            clear hva_ hvn_ hvc_ ge502_1 ul502_1
            clear hcc502 hce502
            have HR502_1 := Aside0.mk hi502_1
            have HC502_1 := Aside0.mk hl502_1
            clear hi502_1 hl502_1
            replace p502 := eq_true p502
            replace q502 := eq_true q502
            go_upto_if 17 with (first | ((with_reducible refine gate_dst (N := 6) rfl ?_); refine box_event ?hg (N := 6) ?hd (cs := #[.string (⟨#[]⟩ : ByteArray), .slice none 0 0]) (t := 107) ?hr ?_; (case hd => rfl); (case hg => rfl); (case hr => first | (go_simp; done) | (go_simp; rfl)); intro gb503 hg w9 hbox hb; have n0_ := Aside0.mk (Kd.V_below (Kd.V_elderB (by (with_reducible repeat (first | apply Kd.V_alloc | apply Kd.V_drewN | apply Kd.V_drew)); exact HO_8.out) gb503 (Nat.le_of_eq hg.symm)) hb); have n1_ := Aside0.mk (Kd.V_below (Kd.V_elderB (by (with_reducible repeat (first | apply Kd.V_alloc | apply Kd.V_drewN | apply Kd.V_drew)); exact HO_502000.out) gb503 (Nat.le_of_eq hg.symm)) hb); have n2_ := Aside0.mk (Kd.V_below (Kd.V_elderB (by (with_reducible repeat (first | apply Kd.V_alloc | apply Kd.V_drewN | apply Kd.V_drew)); exact HL502_1.out) gb503 (Nat.le_of_eq hg.symm)) hb); have n3_ := Aside0.mk (blk_below (g := gb501) (o := .cells #[.slice (some ad502) l0_0.length c0_0] 50 (0, 0)) (by (with_reducible repeat (first | refine blk_drewN ?_ _ | refine blk_drew ?_ | refine blk_alloc ?_ _)); exact BK501.out) hb); have n4_ := Aside0.mk (Kd.C_below (by repeat (first | (with_reducible exact HR502_1.out) | (with_reducible refine Kd.C_alloc ?_ _) | (with_reducible refine Kd.C_drewN ?_ _) | (with_reducible refine Kd.C_drew ?_) | exact HR502_1.out)) hb); have n5_ := Aside0.mk (below_step (by repeat (first | (with_reducible first | exact HB.out | apply below_alloc | apply pw_below_drewN | apply below_drew1 | refine below_set ?_ GE501.out) | exact HB.out)) hb); have n6_ := Aside0.mk (hbox); have n7_ := Aside0.mk ((by rw [hg]; exact (below_size (by repeat (first | (with_reducible first | exact HB.out | apply below_alloc | apply pw_below_drewN | apply below_drew1 | refine below_set ?_ GE501.out) | exact HB.out))) : w.heap.size ≤ gb503)); have n8_ := Aside0.mk ((by rw [hg]; exact (below_size (by repeat (first | (with_reducible first | exact HB.out | apply below_alloc | apply pw_below_drewN | apply below_drew1 | refine below_set ?_ GE501.out) | exact HB.out))) : w.heap.size ≤ gb503)); have n9_ := Aside0.mk ((by rw [hg]; exact Nat.ne_of_lt (blk_lt (g := gb501) (o := .cells #[.slice (some ad502) l0_0.length c0_0] 50 (0, 0)) (by (with_reducible repeat (first | refine blk_drewN ?_ _ | refine blk_drew ?_ | refine blk_alloc ?_ _)); exact BK501.out)) : gb501 ≠ gb503)); have n10_ := Aside0.mk ((by rw [hg]; exact Nat.ne_of_gt (blk_lt (g := gb501) (o := .cells #[.slice (some ad502) l0_0.length c0_0] 50 (0, 0)) (by (with_reducible repeat (first | refine blk_drewN ?_ _ | refine blk_drew ?_ | refine blk_alloc ?_ _)); exact BK501.out)) : gb503 ≠ gb501)); clear HO_8; clear HO_502000; clear HL502_1; clear BK501; clear HR502_1; clear HB; have HO_8 := n0_; have HO_502000 := n1_; have HL502_1 := n2_; have BK501 := n3_; have HR502_1 := n4_; have HB := n5_; have BK503 := n6_; have GW503 := n7_; have GE503 := n8_; have NB501_503 := n9_; have NB503_501 := n10_; clear n0_ n1_ n2_ n3_ n4_ n5_ n6_ n7_ n8_ n9_ n10_; clear hb hbox hg; have hnb10 := NB503_501.out; have hnc10 := NB501_503.out; have hcz11_0 : w9.cell? ⟨gb503, 0, none⟩ = some (.string (⟨#[]⟩ : ByteArray)) := (blk_cell BK503.out 0).trans rfl; have hcz11_1 : w9.cell? ⟨gb503, 1, none⟩ = some (.slice none 0 0) := (blk_cell BK503.out 1).trans rfl; have hfz11_0 := blk_frozen BK503.out 0; have hfz11_1 := blk_frozen BK503.out 1))
            have H := HC8.out
            clear HC8
            by_cases c12 : ((rd_T107 l0_0 x10_1).f0).toList = a1.toList
            · rw [if_pos c12] at H
              have c12b0 : (((rd_T107 l0_0 x10_1).f0).toList == a1.toList) = true := beq_iff_eq.mpr c12
              have c12b1 : (((rd_T107 l0_0 x10_1).f0).toList != a1.toList) = false := bne_eq_false_iff_eq.mpr c12
              clear c12
              (first | rw [c12b0] | (simp only [i64_w, i32_w]; rw [c12b0]) | (rw [c12b1]; (try simp only [Bool.not_true, Bool.not_false])) | skip)
              obtain rfl := Option.some.inj H
              have hnb13 := NB503_501.out
              have hnc13 := NB501_503.out
              have hcz14_0 : w9.cell? ⟨gb503, 0, none⟩ = some (.string (⟨#[]⟩ : ByteArray)) := (blk_cell BK503.out 0).trans rfl
              have hcz14_1 : w9.cell? ⟨gb503, 1, none⟩ = some (.slice none 0 0) := (blk_cell BK503.out 1).trans rfl
              have hfz14_0 := blk_frozen BK503.out 0
              have hfz14_1 := blk_frozen BK503.out 1
              go_wp2
              go_ret
              exact ⟨_, by first | rfl | (simp [errW_none, errW_some] <;> rfl) | (simp [*, errW_none, errW_some] <;> rfl), by (with_reducible repeat (first | apply Kd.V_alloc | apply Kd.V_drewN | apply Kd.V_drew)); exact Kd.V_mono (Kd.V_far (p := ⟨gb503, 1, none⟩) (Kd.V_far (p := ⟨gb503, 0, none⟩) (Kd.V_mono HL502_1.out (fun k_ hk => (⟨hk, hk.2⟩ : _ ∧ k_ ≠ gb503))) (fun _ hk => hk.2) (.string ((rd_T107 l0_0 x10_1).f0))) (fun _ hk => hk.2) (.slice A502_1 ((rd_T107 l0_0 x10_1).f1).length c502_1)) (fun _ hk => hk.1.1.1), by repeat (first | (with_reducible first | exact HB.out | apply below_alloc | apply pw_below_drewN | apply below_drew1 | refine below_set ?_ GE501.out | refine below_set ?_ GE503.out) | exact HB.out)⟩
            · rw [if_neg c12] at H
              have c12b0 : (((rd_T107 l0_0 x10_1).f0).toList == a1.toList) = false := beq_eq_false_iff_ne.mpr c12
              have c12b1 : (((rd_T107 l0_0 x10_1).f0).toList != a1.toList) = true := bne_iff_ne.mpr c12
              (first | rw [c12b0] | (simp only [i64_w, i32_w]; rw [c12b0]) | (rw [c12b1]; (try simp only [Bool.not_true, Bool.not_false])) | skip)
              have H' := Aside0.mk H
              clear H
              go_wp2
              go_roundg k1
              case measure => have := HK1.out; omega
              case rel => exact ⟨(wrap64 (x10_1 + 1)), (by first | rfl | (simp; done) | (simp [i64_w, i32_w]; done) | (simp [*]; done)), H', ⟨by have := HK1.out; omega⟩, ⟨by (with_reducible repeat (first | apply Kd.V_alloc | apply Kd.V_drewN | apply Kd.V_drew)); exact Kd.V_mono (Kd.V_far (p := ⟨gb503, 1, none⟩) (Kd.V_far (p := ⟨gb503, 0, none⟩) (Kd.V_mono HO_8.out (fun k_ hk => (⟨hk, hk.2⟩ : _ ∧ k_ ≠ gb503))) (fun _ hk => hk.2) (.string ((rd_T107 l0_0 x10_1).f0))) (fun _ hk => hk.2) (.slice A502_1 ((rd_T107 l0_0 x10_1).f1).length c502_1)) (fun _ hk => ⟨hk.1.1.1, hk.1.1.2⟩)⟩, ⟨by (with_reducible repeat (first | apply Kd.V_alloc | apply Kd.V_drewN | apply Kd.V_drew)); exact Kd.V_mono (Kd.V_far (p := ⟨gb503, 1, none⟩) (Kd.V_far (p := ⟨gb503, 0, none⟩) (Kd.V_mono HO_502000.out (fun k_ hk => (⟨hk, hk.2⟩ : _ ∧ k_ ≠ gb503))) (fun _ hk => hk.2) (.string ((rd_T107 l0_0 x10_1).f0))) (fun _ hk => hk.2) (.slice A502_1 ((rd_T107 l0_0 x10_1).f1).length c502_1)) (fun _ hk => ⟨hk.1.1.1, hk.1.1.2⟩)⟩, ⟨by (with_reducible repeat (first | refine blk_drewN ?_ _ | refine blk_drew ?_ | refine blk_alloc ?_ _)); refine blk_far ?_ NB501_503.out _; (with_reducible repeat (first | refine blk_drewN ?_ _ | refine blk_drew ?_ | refine blk_alloc ?_ _)); refine blk_far ?_ NB501_503.out _; (with_reducible repeat (first | refine blk_drewN ?_ _ | refine blk_drew ?_ | refine blk_alloc ?_ _)); exact BK501.out⟩, ⟨by repeat (first | (with_reducible first | exact HB.out | apply below_alloc | apply pw_below_drewN | apply below_drew1 | refine below_set ?_ GE501.out | refine below_set ?_ GE503.out) | exact HB.out)⟩⟩
          · rw [if_neg c7] at H
            exact absurd H (by simp)
        · rw [if_neg c6] at H
          exact absurd H (by simp)
      · rw [if_neg c5] at H
        have c5b0 : decide (x10_1 < (l0_0.length : Int)) = false := decide_eq_false c5
        clear c5
        obtain rfl := Option.some.inj H
        go_wp2
        go_ret
        exact ⟨_, by first | rfl | (simp [errW_none, errW_some] <;> rfl) | (simp [*, errW_none, errW_some] <;> rfl), (by exact Kd.V_nil _ _ _ _ _), by repeat (first | (with_reducible first | exact HB.out | apply below_alloc | apply pw_below_drewN | apply below_drew1 | refine below_set ?_ GE501.out) | exact HB.out)⟩

/-! ### impl_RowsOf: function 33 -/
def impl_RowsOf.f (k : Nat) (l0_0 : List (S107)) (a1 : ByteArray) : Option ((List (S70))) := (impl_rowsOf.f k l0_0 a1).bind fun t505 => ((impl_cloneValues.f k t505).bind fun t508 => (some t508))
set_option maxHeartbeats 8000000 in
set_option maxRecDepth 100000 in
theorem impl_RowsOf.calls (k : Nat) (A0_0 : Option Addr) (c0_0 : Nat) (l0_0 : List (S107)) (a1 : ByteArray) (r : List (S70)) (w : World) (hr0_0 : Kd.C k107 w A0_0 l0_0.length l0_0) (hc0_0 : l0_0.length ≤ c0_0) (h : impl_RowsOf.f k l0_0 a1 = some r) :
    Calls Try.prog 33 #[.agg #[.slice A0_0 l0_0.length c0_0], .string a1] w fun e w' => ∃ v0_ : Value, e = .returned (v0_) ∧ Kd.S k70 70 w' w.heap.size (fun _ => True) v0_ r ∧ Below w.heap.size w w' := by
  have hu50 := Try.underlying50
  have HR0_0 := Aside0.mk hr0_0
  have HC0_0 := Aside0.mk hc0_0
  clear hr0_0 hc0_0
  have HB := Aside0.mk (Below.refl w.heap.size w)
  have H : ((impl_rowsOf.f k l0_0 a1).bind fun t505 => ((impl_cloneValues.f k t505).bind fun t508 => (some t508))) = some r := h
  clear h
  replace H := Option.bind_eq_some_iff.mp H
  obtain ⟨t505, A30, H⟩ := H
  replace H : ((impl_cloneValues.f k t505).bind fun t508 => (some t508)) = some r := H
  have A3 := Aside0.mk A30
  clear A30
  replace H := Option.bind_eq_some_iff.mp H
  obtain ⟨t508, A40, H⟩ := H
  replace H : (some t508) = some r := H
  have A4 := Aside0.mk A40
  clear A40
  obtain rfl := Option.some.inj H
  go_enter Try.func33, Try.ntmps33
  go_wp2_with (first | ((with_reducible refine gate_dst (N := 2) rfl ?_); refine box_event ?hg (N := 2) ?hd (cs := #[.slice A0_0 l0_0.length c0_0]) (t := 50) ?hr ?_; (case hd => rfl); (case hg => rfl); (case hr => first | (go_simp; done) | (go_simp; rfl)); intro gb504 hg w5 hbox hb; have n0_ := Aside0.mk (below_step (by repeat (first | (with_reducible first | exact HB.out | apply below_alloc | apply pw_below_drewN | apply below_drew1) | exact HB.out)) hb); have n1_ := Aside0.mk (hbox); have n2_ := Aside0.mk ((by rw [hg]; exact (below_size (by repeat (first | (with_reducible first | exact HB.out | apply below_alloc | apply pw_below_drewN | apply below_drew1) | exact HB.out))) : w.heap.size ≤ gb504)); have n3_ := Aside0.mk ((by rw [hg]; exact (below_size (by repeat (first | (with_reducible first | exact HB.out | apply below_alloc | apply pw_below_drewN | apply below_drew1) | exact HB.out))) : w.heap.size ≤ gb504)); clear HB; have HB := n0_; have BK504 := n1_; have GW504 := n2_; have GE504 := n3_; clear n0_ n1_ n2_ n3_; clear hb hbox hg; have hcz6_0 : w5.cell? ⟨gb504, 0, none⟩ = some (.slice A0_0 l0_0.length c0_0) := (blk_cell BK504.out 0).trans rfl; have hfz6_0 := blk_frozen BK504.out 0) | ((with_reducible refine gate_callee (f := 84) rfl ?_); refine goesL_ (some 7) rfl rfl Try.func84 (by kernel_rfl) rfl #[.agg #[.slice A0_0 l0_0.length c0_0], .string a1] rfl (by (try simp only [List.map_toArray, List.map_cons, List.map_nil]); first | done | rfl | (simp only [List.length_drop, List.length_take]; rfl)) ?_; (with_reducible refine (impl_rowsOf.calls k (fun k_ => k_ < w.heap.size) _ _ l0_0 a1 t505 _ ?side1 A3.out).mono ?_); (case side1 => exact Kd.V_mk HC0_0.out (Kd.F_below (Kd.C_F k107_heap HR0_0.out) (by repeat (first | (with_reducible first | exact HB.out | apply below_alloc | apply pw_below_drewN | apply below_drew1 | refine below_set ?_ GE504.out) | exact HB.out)))); rintro e w7 ⟨v506, rfl, ho0, hb⟩; refine ⟨_, rfl, ?_⟩; obtain ⟨N8, EN8⟩ := Ow.name_size hb; have n0_ := Aside0.mk (Kd.V_lower (Kd.V_mono (ok' := fun k_ => k_ ≠ gb504) ho0 (fun k_ hk_ => Or.elim hk_ (fun hs_ => fun e_ => Nat.not_le.2 hs_ (by rw [e_]; exact GW504.out)) (fun hn_ => (Kd.freshB (g := gb504) (o := .cells #[.slice A0_0 l0_0.length c0_0] 50 (0, 0)) (by (with_reducible repeat (first | refine blk_drewN ?_ _ | refine blk_drew ?_ | refine blk_alloc ?_ _)); exact BK504.out) k_ hn_)))) (below_size (by repeat (first | (with_reducible first | exact HB.out | apply below_alloc | apply pw_below_drewN | apply below_drew1 | refine below_set ?_ GE504.out) | exact HB.out)))); have n1_ := Aside0.mk (blk_below (g := gb504) (o := .cells #[.slice A0_0 l0_0.length c0_0] 50 (0, 0)) (by (with_reducible repeat (first | refine blk_drewN ?_ _ | refine blk_drew ?_ | refine blk_alloc ?_ _)); exact BK504.out) hb); have n2_ := Aside0.mk (below_step (by repeat (first | (with_reducible first | exact HB.out | apply below_alloc | apply pw_below_drewN | apply below_drew1 | refine below_set ?_ GE504.out) | exact HB.out)) hb); clear BK504; clear HB; have HO507 := n0_; have BK504 := n1_; have HB := n2_; clear n0_ n1_ n2_; (try clear hb); (try clear hb2); (try clear hk); (try clear hi); (try clear ho0); obtain ⟨Ao9, co9, eo9⟩ := Kd.V_slice HO507.out; subst eo9) | ((with_reducible refine gate_callee (f := 83) rfl ?_); refine goesL_ (some 8) rfl rfl Try.func83 (by kernel_rfl) rfl #[.slice Ao9 t505.length co9] rfl (by (try simp only [List.map_toArray, List.map_cons, List.map_nil]); first | done | rfl | (simp only [List.length_drop, List.length_take]; rfl)) ?_; (with_reducible refine (impl_cloneValues.calls k _ _ t505 t508 _ ?side1 ?side2 A4.out).mono ?_); (case side1 => repeat (first | exact (Kd.V_reads' HO507.out).2.2 | (with_reducible refine Kd.C_alloc ?_ _) | (with_reducible refine Kd.C_drewN ?_ _) | (with_reducible refine Kd.C_drew ?_))); (case side2 => exact (Kd.V_reads' HO507.out).2.1); rintro e w10 ⟨v509, rfl, ho0, hb⟩; refine ⟨_, rfl, ?_⟩; obtain ⟨N11, EN11⟩ := Ow.name_size hb; have n0_ := Aside0.mk (Kd.V_elder' (by (with_reducible repeat (first | apply Kd.V_alloc | apply Kd.V_drewN | apply Kd.V_drew)); exact HO507.out) (Kd.S_base ho0) hb); have n1_ := Aside0.mk (Kd.S_lower (Ow.S_geN ho0 EN11.out) (below_size (by repeat (first | (with_reducible first | exact HB.out | apply below_alloc | apply pw_below_drewN | apply below_drew1 | refine below_set ?_ GE504.out) | exact HB.out)))); have n2_ := Aside0.mk (blk_below (g := gb504) (o := .cells #[.slice A0_0 l0_0.length c0_0] 50 (0, 0)) (by (with_reducible repeat (first | refine blk_drewN ?_ _ | refine blk_drew ?_ | refine blk_alloc ?_ _)); exact BK504.out) hb); have n3_ := Aside0.mk (below_step (by repeat (first | (with_reducible first | exact HB.out | apply below_alloc | apply pw_below_drewN | apply below_drew1 | refine below_set ?_ GE504.out) | exact HB.out)) hb); clear HO507; clear BK504; clear HB; have HO507 := n0_; have HO510 := n1_; have BK504 := n2_; have HB := n3_; clear n0_ n1_ n2_ n3_; (try clear hb); (try clear hb2); (try clear hk); (try clear hi); (try clear ho0)))
  go_ret
  exact ⟨_, by first | rfl | (simp [errW_none, errW_some] <;> rfl) | (simp [*, errW_none, errW_some] <;> rfl), by (with_reducible repeat (first | apply Kd.S_alloc | apply Kd.S_drewN | apply Kd.S_drew)); exact Kd.S_mono HO510.out (fun _ hk => trivial), by repeat (first | (with_reducible first | exact HB.out | apply below_alloc | apply pw_below_drewN | apply below_drew1 | refine below_set ?_ GE504.out) | exact HB.out)⟩

-- NOT PRINTED: function 6 (laws_FnExactRowsOf)

end Go.Proofs.Ytcgdaeaaimkhdaa.Py
end
section
namespace Go.Proofs.Ytcgdaeaaimkhdaa.Py
open Go.RowKit Go.Proofs.YtcgdaeaaimkhdaaW.PrintWords Go.Proofs.YtcgdaeaaimkhdaaW.PrintLast Go.Proofs.Ytcgdaeaaimkhdaa.Pl Go.Proofs.Ytcgdaeaaimkhdaa.Ext
set_option linter.unusedVariables false
set_option linter.unusedSimpArgs false
theorem spec_l5Copy_ev : ∀ x : S70, SmValue x → Ev (fun k => spec_l5Copy.f k x.f0 x.f1 x.f2 x.f3) (x.f0, x.f1, x.f2, x.f3) := by
  refine indValueI fun x ih hx => ?_
  have hp2 := hx.p2
  have hp3 := hx.p3
  refine Ev.up ?_
  simp only [spec_l5Copy.f]
  refine Ev.none_bind (Ev.pos (by simp; omega) ?_)
  suffices h : ∀ m i, i + m = x.f3.length → Ev (fun k => spec_l5Copy.l0 k (i : Int) x.f0 x.f1 x.f2 x.f3 x.f0 x.f1 x.f2 (x.f3.take i)) (x.f0, x.f1, x.f2, x.f3) by simpa using h x.f3.length 0 (by omega)
  intro m
  induction m with
  | zero =>
    intro i hi
    refine Ev.up ?_
    simp only [spec_l5Copy.l0]
    refine Ev.neg (by omega) (Ev.const ?_)
    rw [List.take_of_length_le (by omega)]
  | succ m ih2 =>
    intro i hi
    have hlt : i < x.f3.length := by omega
    have hm := mem_getD x.f3 z70 i hlt
    refine Ev.up ?_
    simp only [spec_l5Copy.l0]
    refine Ev.pos (by omega) (Ev.pos (by omega) (Ev.bind (ih _ hm (hp3.2 _ hm)) (Ev.pos (by rw [List.length_take]; omega) ?_)))
    rw [w1' hlt hp3.1]
    simp only [rd_T70, Int.toNat_natCast, etaValue]
    have e : x.f3.take i ++ [x.f3.getD i z70] = x.f3.take (i + 1) := by
      rw [List.take_succ_eq_append_getElem hlt, List.getD_eq_getElem?_getD, List.getElem?_eq_getElem hlt]
      rfl
    have h2 := ih2 (i + 1) (by omega)
    rw [← e] at h2
    exact h2
theorem impl_cloneValue_ev : ∀ x : S70, SmValue x → Ev (fun k => impl_cloneValue.f k x.f0 x.f1 x.f2 x.f3) (x.f0, x.f1, x.f2, x.f3) := by
  refine indValueI fun x ih hx => ?_
  have hp2 := hx.p2
  have hp3 := hx.p3
  refine Ev.up ?_
  simp only [impl_cloneValue.f]
  refine Ev.fix (a := x.f2) (by unfold slices_Clone_string_string.f; rw [if_pos (by omega)]) ?_
  suffices h : ∀ m i, i + m = x.f3.length → Ev (fun k => impl_cloneValue.l0 k x.f3 (x.f3.length : Int) (i : Int) x.f0 x.f1 x.f2 (x.f3.take i)) (x.f0, x.f1, x.f2, x.f3) by simpa using h x.f3.length 0 (by omega)
  intro m
  induction m with
  | zero =>
    intro i hi
    refine Ev.up ?_
    simp only [impl_cloneValue.l0]
    refine Ev.neg (by omega) (Ev.const ?_)
    rw [List.take_of_length_le (by omega)]
  | succ m ih2 =>
    intro i hi
    have hlt : i < x.f3.length := by omega
    have hm := mem_getD x.f3 z70 i hlt
    refine Ev.up ?_
    simp only [impl_cloneValue.l0]
    refine Ev.pos (by omega) (Ev.pos (by omega) (Ev.pos (by omega) (Ev.bind (ih _ hm (hp3.2 _ hm)) (Ev.pos (by rw [List.length_take]; omega) ?_))))
    rw [w1' hlt hp3.1]
    simp only [rd_T70, Int.toNat_natCast, etaValue]
    have e : x.f3.take i ++ [x.f3.getD i z70] = x.f3.take (i + 1) := by
      rw [List.take_succ_eq_append_getElem hlt, List.getD_eq_getElem?_getD, List.getElem?_eq_getElem hlt]
      rfl
    have h2 := ih2 (i + 1) (by omega)
    rw [← e] at h2
    exact h2

end Go.Proofs.Ytcgdaeaaimkhdaa.Py
end
section
namespace Go.Proofs.Ytcgdaeaaimkhdaa.Py
open Go.RowKit Go.Proofs.YtcgdaeaaimkhdaaW.PrintWords Go.Proofs.YtcgdaeaaimkhdaaW.PrintLast Go.Proofs.Ytcgdaeaaimkhdaa.Pl Go.Proofs.Ytcgdaeaaimkhdaa.Ext
set_option linter.unusedVariables false
set_option linter.unusedSimpArgs false
theorem cloneValues_ev (xs : List S70) (hx : xs.length ≤ 1048576) (h : ∀ y ∈ xs, SmValue y) : Ev (fun k => impl_cloneValues.f k xs) xs := by
  suffices hs : ∀ m i, i + m = xs.length → Ev (fun k => impl_cloneValues.l0 k (xs.take i) xs (xs.length : Int) (i : Int)) xs by
    have := hs xs.length 0 (by omega)
    simpa [impl_cloneValues.f] using this
  intro m
  induction m with
  | zero =>
    intro i hi
    refine Ev.up ?_
    simp only [impl_cloneValues.l0]
    refine Ev.neg (by omega) (Ev.const ?_)
    rw [List.take_of_length_le (by omega)]
  | succ m ih =>
    intro i hi
    have hlt : i < xs.length := by omega
    have hm := mem_getD xs z70 i hlt
    refine Ev.up ?_
    simp only [impl_cloneValues.l0]
    refine Ev.pos (by omega) (Ev.pos (by omega) (Ev.pos (by omega) (Ev.bind (impl_cloneValue_ev _ (h _ hm)) (Ev.pos (by rw [List.length_take]; omega) ?_))))
    rw [w1' hlt hx]
    simp only [rd_T70, Int.toNat_natCast, etaValue]
    have e : xs.take i ++ [xs.getD i z70] = xs.take (i + 1) := by
      rw [List.take_succ_eq_append_getElem hlt, List.getD_eq_getElem?_getD, List.getElem?_eq_getElem hlt]
      rfl
    have h2 := ih (i + 1) (by omega)
    rw [← e] at h2
    exact h2
theorem l9Values_ev (xs : List S70) (hx : xs.length ≤ 1048576) (h : ∀ y ∈ xs, SmValue y) : Ev (fun k => spec_l9Values.f k xs) xs := by
  suffices hs : ∀ m i, i + m = xs.length → Ev (fun k => spec_l9Values.l0 k xs (xs.take i) (i : Int)) xs by
    have := hs xs.length 0 (by omega)
    simpa [spec_l9Values.f] using this
  intro m
  induction m with
  | zero =>
    intro i hi
    refine Ev.up ?_
    simp only [spec_l9Values.l0]
    refine Ev.neg (by omega) (Ev.const ?_)
    rw [List.take_of_length_le (by omega)]
  | succ m ih =>
    intro i hi
    have hlt : i < xs.length := by omega
    have hm := mem_getD xs z70 i hlt
    refine Ev.up ?_
    simp only [spec_l9Values.l0]
    refine Ev.pos (by omega) (Ev.pos (by omega) (Ev.bind (spec_l5Copy_ev _ (h _ hm)) (Ev.pos (by rw [List.length_take]; omega) ?_)))
    rw [w1' hlt hx]
    simp only [rd_T70, Int.toNat_natCast, etaValue]
    have e : xs.take i ++ [xs.getD i z70] = xs.take (i + 1) := by
      rw [List.take_succ_eq_append_getElem hlt, List.getD_eq_getElem?_getD, List.getElem?_eq_getElem hlt]
      rfl
    have h2 := ih (i + 1) (by omega)
    rw [← e] at h2
    exact h2
/-- The first table of the name: its place, or none. -/
theorem l9Table_ev (xs : List S107) (hx : xs.length ≤ 1048576) (s : ByteArray) : (Ev (fun k => spec_l9Table.f k xs s) (-1) ∧ Ev (fun k => impl_rowsOf.f k xs s) []) ∨ ∃ i : Nat, i < xs.length ∧ Ev (fun k => spec_l9Table.f k xs s) (i : Int) ∧ Ev (fun k => impl_rowsOf.f k xs s) (xs.getD i z107).f1 := by
  suffices h : ∀ m i, i + m = xs.length → (Ev (fun k => spec_l9Table.l0 k s (i : Int) xs) (-1) ∧ Ev (fun k => impl_rowsOf.l0 k s xs (xs.length : Int) (i : Int)) []) ∨ ∃ j : Nat, j < xs.length ∧ Ev (fun k => spec_l9Table.l0 k s (i : Int) xs) (j : Int) ∧ Ev (fun k => impl_rowsOf.l0 k s xs (xs.length : Int) (i : Int)) (xs.getD j z107).f1 by
    have := h xs.length 0 (by omega)
    rw [Int.natCast_zero] at this
    simpa only [spec_l9Table.f, impl_rowsOf.f] using this
  intro m
  induction m with
  | zero =>
    intro i hi
    refine Or.inl ⟨Ev.up ?_, Ev.up ?_⟩
    · simp only [spec_l9Table.l0]; exact Ev.neg (by omega) (Ev.now _)
    · simp only [impl_rowsOf.l0]; exact Ev.neg (by omega) (Ev.now _)
  | succ m ih =>
    intro i hi
    have hlt : i < xs.length := by omega
    by_cases hc : ((rd_T107 xs (i : Int)).f0).toList = s.toList
    · refine Or.inr ⟨i, hlt, Ev.up ?_, Ev.up ?_⟩
      · simp only [spec_l9Table.l0]; exact Ev.pos (by omega) (Ev.pos (by omega) (Ev.pos hc (Ev.now _)))
      · simp only [impl_rowsOf.l0]; exact Ev.pos (by omega) (Ev.pos (by omega) (Ev.pos (by omega) (Ev.pos hc (Ev.now _))))
    · rcases ih (i + 1) (by omega) with ⟨h1, h2⟩ | ⟨j, hj, h1, h2⟩
      · refine Or.inl ⟨Ev.up ?_, Ev.up ?_⟩
        · simp only [spec_l9Table.l0]
          refine Ev.pos (by omega) (Ev.pos (by omega) (Ev.neg hc ?_))
          rw [w1' hlt hx]; exact h1
        · simp only [impl_rowsOf.l0]
          refine Ev.pos (by omega) (Ev.pos (by omega) (Ev.pos (by omega) (Ev.neg hc ?_)))
          rw [w1' hlt hx]; exact h2
      · refine Or.inr ⟨j, hj, Ev.up ?_, Ev.up ?_⟩
        · simp only [spec_l9Table.l0]
          refine Ev.pos (by omega) (Ev.pos (by omega) (Ev.neg hc ?_))
          rw [w1' hlt hx]; exact h1
        · simp only [impl_rowsOf.l0]
          refine Ev.pos (by omega) (Ev.pos (by omega) (Ev.pos (by omega) (Ev.neg hc ?_)))
          rw [w1' hlt hx]; exact h2
theorem RowsOf_same (xs : List S107) (hx : xs.length ≤ 1048576) (ht : ∀ y ∈ xs, SmTableData y) (s : ByteArray) : ∃ r : List S70, Ev (fun k => spec_RowsOf.f k xs s) r ∧ Ev (fun k => impl_RowsOf.f k xs s) r ∧ (r = [] ∨ ∃ y ∈ xs, r = y.f1) := by
  rcases l9Table_ev xs hx s with ⟨h1, h2⟩ | ⟨i, hi, h1, h2⟩
  · refine ⟨[], ?_, ?_, Or.inl rfl⟩
    · simp only [spec_RowsOf.f]
      exact Ev.bind h1 (Ev.pos (by omega) (Ev.now _))
    · simp only [impl_RowsOf.f]
      exact Ev.bind h2 (Ev.bind (cloneValues_ev [] (by simp) (by simp)) (Ev.now _))
  · have hm := mem_getD xs z107 i hi
    have hp := (ht _ hm).p1
    refine ⟨_, ?_, ?_, Or.inr ⟨_, hm, rfl⟩⟩
    · simp only [spec_RowsOf.f]
      exact Ev.bind h1 (Ev.neg (by omega) (Ev.pos (by omega) (Ev.pos (by omega) (Ev.bind (l9Values_ev _ hp.1 hp.2) (Ev.now _)))))
    · simp only [impl_RowsOf.f]
      exact Ev.bind h2 (Ev.bind (cloneValues_ev _ hp.1 hp.2) (Ev.now _))
theorem lnTableData_of2 (x : S107) (h : SmTableData x) : LnTableData x := ⟨h.p1.1, fun y hy => lnValue_of y (h.p1.2 y hy)⟩
theorem cnValueS_cv : ∀ l : List S67, cnValueS (cvValueS l) ≤ 2 * (l.length + wtValueS l)
  | [] => by simp [cvValueS, cnValueS]
  | x :: r => by
    have h1 := cnValueS_cv r
    have h2 := cnValue_cv x
    simp only [cvValueS, cnValueS, wtValueS, List.length_cons]
    omega
theorem cnTableDataS_cv : ∀ l : List S142, cnTableDataS (cvTableDataS l) ≤ 2 * (l.length + wtTableDataS l)
  | [] => by simp [cvTableDataS, cnTableDataS]
  | x :: r => by
    have h1 := cnTableDataS_cv r
    have h2 := cnValueS_cv x.f1
    simp only [cvTableDataS, cnTableDataS, wtTableDataS, List.length_cons]
    rw [cnTableData_eq, cvTableData_eq, wtTableData_eq]
    dsimp only
    omega
theorem cnTableData_mem {y : S107} {xs : List S107} (h : y ∈ xs) : cnTableData y ≤ cnTableDataS xs := by
  induction xs with
  | nil => cases h
  | cons z r ih =>
    rcases List.mem_cons.1 h with rfl | h
    · simp only [cnTableDataS]; omega
    · have := ih h; simp only [cnTableDataS]; omega

end Go.Proofs.Ytcgdaeaaimkhdaa.Py
end
section
namespace Go.Proofs.Ytcgdaeaaimkhdaa.Py
open Go.RowKit Go.Proofs.YtcgdaeaaimkhdaaW.PrintWords Go.Proofs.YtcgdaeaaimkhdaaW.PrintLast Go.Proofs.Ytcgdaeaaimkhdaa.Pl Go.Proofs.Ytcgdaeaaimkhdaa.Ext
set_option linter.unusedVariables false
set_option linter.unusedSimpArgs false
set_option maxHeartbeats 8000000 in
set_option maxRecDepth 100000 in
theorem markDB_own (x : S50) (hm0 : MarksTableDataS x.f0) (a : Int) (h0 : 0 ≤ a) (hb : a + (cnTableDataS x.f0 : Nat) ≤ 4611686018427387000) (v0 : Value) (o0 : Nat → Prop) (w0 w : World) (hB : Below w0.heap.size w0 w) (g0 : Kd.S k107 107 w w0.heap.size o0 v0 x.f0) (u0 : ∀ k, o0 k → k < w.heap.size) :
    Calls Try.prog 28 #[.agg #[v0], .int .i64 a] w fun e w' => e = .returned (.int .i64 (a + (cnTableDataS x.f0 : Nat))) ∧ Kd.S k107 107 w' w0.heap.size o0 v0 (mkTableDataS x.f0 (a)) ∧ Below w0.heap.size w0 w' ∧ Kept w w' (fun k => o0 k) := by
  have HB := Aside0.mk hB; have HK := Aside0.mk (Kept.refl w (fun k => o0 k)); have HA := Aside0.mk (And.intro h0 hb)
  have H0 := Aside0.mk g0; have HU0 := Aside0.mk u0
  have HL0 := Aside0.mk hm0
  clear hB h0 hb g0 u0 hm0
  go_enter Try.func28, Try.ntmps28
  go_wp2_with (first
    | ((with_reducible refine gate_dst (N := 2) rfl ?_)
       refine box_event ?hg (N := 2) ?hd (cs := #[v0]) (t := 50) ?hr ?_; (case hd => rfl); (case hg => rfl); (case hr => first | (go_simp; done) | (go_simp; rfl))
       intro gb hg w1 hbox hb
       have HG := Aside0.mk (show ∀ k, k < w.heap.size → k ≠ gb from fun k h e => by omega)
       have HG2 := Aside0.mk (show w0.heap.size ≤ gb by rw [hg]; exact HB.out.size)
       have n0 := hbox
       have n1 := Kd.S_below H0.out hb
       have n2 := below_step HB.out hb
       have n3 := Kept.below HK.out hb
       clear H0 HB HK
       (try clear hx)
       have BK := Aside0.mk n0; have H0 := Aside0.mk n1; have HB := Aside0.mk n2; have HK := Aside0.mk n3
       clear n0 n1 n2 n3
       clear hbox hb hg
       have hx : w1.cell? ⟨gb, 0, none⟩ = some v0 := (blk_cell BK.out 0).trans rfl)
    | ((with_reducible refine gate_callee (f := 77) rfl ?_)
       refine goesL_ (some 8) rfl rfl Try.func77 (by kernel_rfl) rfl #[v0, .int .i64 a] rfl (by (try simp only [List.map_toArray, List.map_cons, List.map_nil]); first | done | rfl) ?_
       (with_reducible refine (MarksTableDataS.go HL0.out (a) v0 o0 w0 _ (by have := HA.out; omega) (by have := HA.out; omega) HB.out H0.out).mono ?_)
       rintro e w2 ⟨rfl, hr, hb, hk⟩
       refine ⟨_, rfl, ?_⟩
       have n0 := blk_kept BK.out hk (fun h1 => HG.out _ (HU0.out _ h1) rfl)
       have n1 := hr
       have n2 := hb
       have n3 := HK.out.then_ hk (fun k h1 => .inl (h1))
       clear BK H0 HB HK
       (try clear hx)
       have BK := Aside0.mk n0; have H0 := Aside0.mk n1; have HB := Aside0.mk n2; have HK := Aside0.mk n3
       clear n0 n1 n2 n3
       clear hr hb hk))
  go_ret
  exact ⟨rfl, H0.out, HB.out, HK.out⟩

end Go.Proofs.Ytcgdaeaaimkhdaa.Py
end
