/- Printed by a program of this session: what functions of the translation come to, each contract as it stands. No condition. -/
import Derived.Test.YtppgalehaiagaaaZIsValidTermPx0M
import Derived.Test.YtppgalehaiagaaaZIsValidTermPx6M
section
namespace Go.Proofs.Ytppgalehaiagaaa.Px
open Go.RowKit Go.Proofs.Ytppgalehaiagaaa.Ext Go.Proofs.YtppgalehaiagaaaW.PrintWords Go.Proofs.YtppgalehaiagaaaW.PrintLast Go.Proofs.YtppgalehaiagaaaW.PrintMore
attribute [local go_sem] max2_int min2_int max_two min_two max_three min_three max_four min_four   -- for this text's walks alone
set_option linter.unusedVariables false
set_option linter.unusedSimpArgs false

/-! ### impl_sizeOf: function 102 -/
mutual
def impl_sizeOf.l0 : Nat → Int → Int → Int → List (S36) → Option (Int)
 | 0, _, _, _, _ => none
 | k + 1, x3, x9, x10, x707 => if x10 < x9 then (if 0 ≤ x10 then (if x10 < (x707.length : Int) then ((impl_sizeOf.f k ((rd_T36 x707 x10).f0) ((rd_T36 x707 x10).f1) ((rd_T36 x707 x10).f2) ((rd_T36 x707 x10).f3.f0) ((rd_T36 x707 x10).f3.f1) ((rd_T36 x707 x10).f3.f2) ((rd_T36 x707 x10).f4) ((rd_T36 x707 x10).f5)).bind fun t422 => (impl_sizeOf.l0 k (wrap64 (x3 + t422)) x9 (wrap64 (x10 + 1)) x707)) else (none)) else (none)) else (some x3)
def impl_sizeOf.f : Nat → Int → ByteArray → Int → Int → List ByteArray → List (S33) → List ByteArray → List (S36) → Option (Int)
 | 0, _, _, _, _, _, _, _, _ => none
 | k + 1, a0_0, a0_1, a0_2, a0_3, l0_4, l0_5, l0_6, l0_7 => impl_sizeOf.l0 k 1 (l0_7.length : Int) 0 l0_7
end
set_option maxHeartbeats 8000000 in
set_option maxRecDepth 100000 in
theorem impl_sizeOf.calls (k : Nat) : ∀ (ad0 : Addr) (a0_0 : Int) (a0_1 : ByteArray) (a0_2 : Int) (a0_3 : Int) (A0_4 : Option Addr) (c0_4 : Nat) (l0_4 : List ByteArray) (A0_5 : Option Addr) (c0_5 : Nat) (l0_5 : List (S33)) (A0_6 : Option Addr) (c0_6 : Nat) (l0_6 : List ByteArray) (A0_7 : Option Addr) (c0_7 : Nat) (l0_7 : List (S36)) (r : Int) (w : World) (hp0 : Cells w ad0 [.int .i64 a0_0, .string a0_1, .int .i64 a0_2, .int .i64 a0_3, .slice A0_4 l0_4.length c0_4, .slice A0_5 l0_5.length c0_5, .slice A0_6 l0_6.length c0_6, .slice A0_7 l0_7.length c0_7]) (hr0_4 : Kd.C Kd.string w A0_4 l0_4.length l0_4) (hc0_4 : l0_4.length ≤ c0_4) (hr0_5 : Kd.C k33 w A0_5 l0_5.length l0_5) (hc0_5 : l0_5.length ≤ c0_5) (hr0_6 : Kd.C Kd.string w A0_6 l0_6.length l0_6) (hc0_6 : l0_6.length ≤ c0_6) (hr0_7 : Kd.C k36 w A0_7 l0_7.length l0_7) (hc0_7 : l0_7.length ≤ c0_7) (h : impl_sizeOf.f k a0_0 a0_1 a0_2 a0_3 l0_4 l0_5 l0_6 l0_7 = some r),
  Calls Try.prog 102 #[.pointer (some ad0)] w fun e w' => e = .returned (.int .i64 r) ∧ Drawn0 w w' := by
 induction k using Nat.strongRecOn with
 | _ k ih =>
 intro ad0 a0_0 a0_1 a0_2 a0_3 A0_4 c0_4 l0_4 A0_5 c0_5 l0_5 A0_6 c0_6 l0_6 A0_7 c0_7 l0_7 r w hp0 hr0_4 hc0_4 hr0_5 hc0_5 hr0_6 hc0_6 hr0_7 hc0_7 h
 cases k with
 | zero => exact absurd h (by simp [impl_sizeOf.f])
 | succ k =>
 simp only [impl_sizeOf.f] at h
 have HP0 := Aside0.mk hp0
 clear hp0
 have HR0_4 := Aside0.mk hr0_4
 have HC0_4 := Aside0.mk hc0_4
 clear hr0_4 hc0_4
 have HR0_5 := Aside0.mk hr0_5
 have HC0_5 := Aside0.mk hc0_5
 clear hr0_5 hc0_5
 have HR0_6 := Aside0.mk hr0_6
 have HC0_6 := Aside0.mk hc0_6
 clear hr0_6 hc0_6
 have HR0_7 := Aside0.mk hr0_7
 have HC0_7 := Aside0.mk hc0_7
 clear hr0_7 hc0_7
 have H : (impl_sizeOf.l0 k 1 (l0_7.length : Int) 0 l0_7) = some r := h
 clear h
 have H' := Aside0.mk H
 clear H
 have hxr2_0 : w.cell? ad0 = some (.int .i64 a0_0) := HP0.out.1
 have hxr2_1 : w.cell? ⟨ad0.block, ad0.off + 1, none⟩ = some (.string a0_1) := HP0.out.2.1
 have hxr2_2 : w.cell? ⟨ad0.block, ad0.off + 2, none⟩ = some (.int .i64 a0_2) := HP0.out.2.2.1
 have hxr2_3 : w.cell? ⟨ad0.block, ad0.off + 3, none⟩ = some (.int .i64 a0_3) := HP0.out.2.2.2.1
 have hxr2_4 : w.cell? ⟨ad0.block, ad0.off + 4, none⟩ = some (.slice A0_4 l0_4.length c0_4) := HP0.out.2.2.2.2.1
 have hxr2_5 : w.cell? ⟨ad0.block, ad0.off + 5, none⟩ = some (.slice A0_5 l0_5.length c0_5) := HP0.out.2.2.2.2.2.1
 have hxr2_6 : w.cell? ⟨ad0.block, ad0.off + 6, none⟩ = some (.slice A0_6 l0_6.length c0_6) := HP0.out.2.2.2.2.2.2.1
 have hxr2_7 : w.cell? ⟨ad0.block, ad0.off + 7, none⟩ = some (.slice A0_7 l0_7.length c0_7) := HP0.out.2.2.2.2.2.2.2.1
 go_enter Try.func102, Try.ntmps102
 go_wp2
 go_loopg [3, 10] k (fun kq v3 v10 w' => ∃ (x3_1 : Int) (x10_1 : Int), v3 = .int .i64 x3_1 ∧ v10 = .int .i64 x10_1 ∧ Aside0 (impl_sizeOf.l0 kq x3_1 (l0_7.length : Int) x10_1 l0_7 = some r) ∧ Aside0 (kq ≤ k) ∧ Drawn0 w w')
 case atStart => exact ⟨(1), (0), (by first | rfl | (simp; done) | (simp [i64_w, i32_w]; done) | (simp [*]; done)), (by first | rfl | (simp; done) | (simp [i64_w, i32_w]; done) | (simp [*]; done)), H', ⟨Nat.le_refl _⟩, by repeat (first | exact Drawn0.refl _ | apply Drawn0.step)⟩
 case round =>
  clear H'
  (try clear c1); (try clear p2)
  obtain ⟨x3_1, x10_1, rfl, rfl, HA, HK1, ⟨m1, rfl⟩⟩ := hrel
  cases gk with
  | zero => exact absurd HA.out (by simp [impl_sizeOf.l0])
  | succ k1 =>
   have H := HA.out
   clear HA
   simp only [impl_sizeOf.l0] at H
   by_cases c3 : x10_1 < (l0_7.length : Int)
   ·rw [if_pos c3] at H
    have c3b0 : decide (x10_1 < (l0_7.length : Int)) = true := decide_eq_true c3
    clear c3
    by_cases c4 : 0 ≤ x10_1
    ·rw [if_pos c4] at H
     have c4b0 : decide (0 ≤ x10_1) = true := decide_eq_true c4
     clear c4
     by_cases c5 : x10_1 < (l0_7.length : Int)
     ·rw [if_pos c5] at H
      have c5b0 : decide (x10_1 < (l0_7.length : Int)) = true := decide_eq_true c5
      clear c5
      replace H := Option.bind_eq_some_iff.mp H
      obtain ⟨t422, A60, H⟩ := H
      replace H : (impl_sizeOf.l0 k1 (wrap64 (x3_1 + t422)) (l0_7.length : Int) (wrap64 (x10_1 + 1)) l0_7) = some r := H
      have A6 := Aside0.mk A60
      clear A60
      have H' := Aside0.mk H
      clear H
      have hxr7_0 : w.cell? ad0 = some (.int .i64 a0_0) := HP0.out.1
      have hxr7_1 : w.cell? ⟨ad0.block, ad0.off + 1, none⟩ = some (.string a0_1) := HP0.out.2.1
      have hxr7_2 : w.cell? ⟨ad0.block, ad0.off + 2, none⟩ = some (.int .i64 a0_2) := HP0.out.2.2.1
      have hxr7_3 : w.cell? ⟨ad0.block, ad0.off + 3, none⟩ = some (.int .i64 a0_3) := HP0.out.2.2.2.1
      have hxr7_4 : w.cell? ⟨ad0.block, ad0.off + 4, none⟩ = some (.slice A0_4 l0_4.length c0_4) := HP0.out.2.2.2.2.1
      have hxr7_5 : w.cell? ⟨ad0.block, ad0.off + 5, none⟩ = some (.slice A0_5 l0_5.length c0_5) := HP0.out.2.2.2.2.2.1
      have hxr7_6 : w.cell? ⟨ad0.block, ad0.off + 6, none⟩ = some (.slice A0_6 l0_6.length c0_6) := HP0.out.2.2.2.2.2.2.1
      have hxr7_7 : w.cell? ⟨ad0.block, ad0.off + 7, none⟩ = some (.slice A0_7 l0_7.length c0_7) := HP0.out.2.2.2.2.2.2.2.1
      have p421 : 0 ≤ (x10_1 : Int) := of_decide_eq_true (by first | (with_reducible assumption) | assumption)
      have q421 : x10_1 < (l0_7.length : Int) := of_decide_eq_true (by first | (with_reducible assumption) | assumption)
      obtain ⟨ad421, A421_4, c421_4, A421_5, c421_5, A421_6, c421_6, A421_7, c421_7, e421, hx421_0, hx421_1, hx421_2, hx421_3, hx421_4, hx421_5, hx421_6, hx421_7, hl421_4, hi421_4, hl421_5, hi421_5, hl421_6, hi421_6, hl421_7, hi421_7⟩ := at_T36 HR0_7.out x10_1 p421 q421
      cases e421
      have HP421 := Aside0.mk (show Cells w (ad421.add (x10_1.toNat * 8)) [.int .i64 ((rd_T36 l0_7 x10_1).f0), .string ((rd_T36 l0_7 x10_1).f1), .int .i64 ((rd_T36 l0_7 x10_1).f2), .int .i64 ((rd_T36 l0_7 x10_1).f3.f0), .slice A421_4 ((rd_T36 l0_7 x10_1).f3.f1).length c421_4, .slice A421_5 ((rd_T36 l0_7 x10_1).f3.f2).length c421_5, .slice A421_6 ((rd_T36 l0_7 x10_1).f4).length c421_6, .slice A421_7 ((rd_T36 l0_7 x10_1).f5).length c421_7] from ⟨hx421_0, hx421_1, hx421_2, hx421_3, hx421_4, hx421_5, hx421_6, hx421_7, trivial⟩)
      have HR421_4 := Aside0.mk hi421_4
      have HC421_4 := Aside0.mk hl421_4
      clear hi421_4 hl421_4
      have HR421_5 := Aside0.mk hi421_5
      have HC421_5 := Aside0.mk hl421_5
      clear hi421_5 hl421_5
      have HR421_6 := Aside0.mk hi421_6
      have HC421_6 := Aside0.mk hl421_6
      clear hi421_6 hl421_6
      have HR421_7 := Aside0.mk hi421_7
      have HC421_7 := Aside0.mk hl421_7
      clear hi421_7 hl421_7
      replace p421 := eq_true p421
      replace q421 := eq_true q421
      go_wp2_with (first | ((with_reducible refine gate_callee (f := 102) rfl ?_); refine goesL_ (some 20) rfl rfl Try.func102 (by kernel_rfl) rfl #[.pointer (some (ad421.add (x10_1.toNat * 8)))] rfl (by (try simp only [List.map_toArray, List.map_cons, List.map_nil]); first | done | rfl | (simp only [List.length_drop, List.length_take]; rfl)) ?_; (with_reducible refine (ih k1 (by have := HK1.out; omega) (ad421.add (x10_1.toNat * 8)) ((rd_T36 l0_7 x10_1).f0) ((rd_T36 l0_7 x10_1).f1) ((rd_T36 l0_7 x10_1).f2) ((rd_T36 l0_7 x10_1).f3.f0) A421_4 c421_4 ((rd_T36 l0_7 x10_1).f3.f1) A421_5 c421_5 ((rd_T36 l0_7 x10_1).f3.f2) A421_6 c421_6 ((rd_T36 l0_7 x10_1).f4) A421_7 c421_7 ((rd_T36 l0_7 x10_1).f5) t422 _ ?side1 ?side2 ?side3 ?side4 ?side5 ?side6 ?side7 ?side8 ?side9 A6.out).mono ?_); (case side1 => repeat (first | exact HP421.out | (with_reducible refine Cells_alloc ?_ _) | (with_reducible refine Cells_drewN ?_ _) | (with_reducible refine Cells_drew ?_))); (case side2 => repeat (first | exact HR421_4.out | (with_reducible refine Kd.C_alloc ?_ _) | (with_reducible refine Kd.C_drewN ?_ _) | (with_reducible refine Kd.C_drew ?_))); (case side3 => exact HC421_4.out); (case side4 => repeat (first | exact HR421_5.out | (with_reducible refine Kd.C_alloc ?_ _) | (with_reducible refine Kd.C_drewN ?_ _) | (with_reducible refine Kd.C_drew ?_))); (case side5 => exact HC421_5.out); (case side6 => repeat (first | exact HR421_6.out | (with_reducible refine Kd.C_alloc ?_ _) | (with_reducible refine Kd.C_drewN ?_ _) | (with_reducible refine Kd.C_drew ?_))); (case side7 => exact HC421_6.out); (case side8 => repeat (first | exact HR421_7.out | (with_reducible refine Kd.C_alloc ?_ _) | (with_reducible refine Kd.C_drewN ?_ _) | (with_reducible refine Kd.C_drew ?_))); (case side9 => exact HC421_7.out); rintro e w' ⟨rfl, ⟨nd, rfl⟩⟩; refine ⟨_, rfl, ?_⟩))
      go_roundg k1
      case measure => have := HK1.out; omega
      case rel => exact ⟨(wrap64 (x3_1 + t422)), (wrap64 (x10_1 + 1)), (by first | rfl | (simp; done) | (simp [i64_w, i32_w]; done) | (simp [*]; done)), (by first | rfl | (simp; done) | (simp [i64_w, i32_w]; done) | (simp [*]; done)), H', ⟨by have := HK1.out; omega⟩, by repeat (first | exact Drawn0.refl _ | apply Drawn0.step)⟩
     ·rw [if_neg c5] at H
      exact absurd H (by simp)
    ·rw [if_neg c4] at H
     exact absurd H (by simp)
   ·rw [if_neg c3] at H
    have c3b0 : decide (x10_1 < (l0_7.length : Int)) = false := decide_eq_false c3
    clear c3
    obtain rfl := Option.some.inj H
    go_wp2
    go_ret
    exact ⟨by first | rfl | (simp; done) | (simp [i64_w, i32_w]; done) | (simp [*]; done), by repeat (first | exact Drawn0.refl _ | apply Drawn0.step)⟩

/-! ### impl_DepthOfTerm: function 103 -/
mutual
def impl_DepthOfTerm.l0 : Nat → Int → Int → Int → Int → ByteArray → Int → Int → List ByteArray → List (S33) → List ByteArray → List (S36) → Option (Int)
 | 0, _, _, _, _, _, _, _, _, _, _, _ => none
 | k + 1, x3, x7, x8, x424000, x424001, x424002, x424003, x424004, x424005, x424006, x424007 => if x8 < x7 then (if 0 ≤ x8 then (if x8 < (x424007.length : Int) then ((impl_DepthOfTerm.f k ((rd_T36 x424007 x8).f0) ((rd_T36 x424007 x8).f1) ((rd_T36 x424007 x8).f2) ((rd_T36 x424007 x8).f3.f0) ((rd_T36 x424007 x8).f3.f1) ((rd_T36 x424007 x8).f3.f2) ((rd_T36 x424007 x8).f4) ((rd_T36 x424007 x8).f5)).bind fun t425 => (impl_DepthOfTerm.l0 k (mx x3 t425) x7 (wrap64 (x8 + 1)) x424000 x424001 x424002 x424003 x424004 x424005 x424006 x424007)) else (none)) else (none)) else (some (wrap64 (x3 + 1)))
def impl_DepthOfTerm.f : Nat → Int → ByteArray → Int → Int → List ByteArray → List (S33) → List ByteArray → List (S36) → Option (Int)
 | 0, _, _, _, _, _, _, _, _ => none
 | k + 1, a0_0, a0_1, a0_2, a0_3, l0_4, l0_5, l0_6, l0_7 => impl_DepthOfTerm.l0 k 0 (l0_7.length : Int) 0 a0_0 a0_1 a0_2 a0_3 l0_4 l0_5 l0_6 l0_7
end
set_option maxHeartbeats 8000000 in
set_option maxRecDepth 100000 in
theorem impl_DepthOfTerm.calls (k : Nat) : ∀ (a0_0 : Int) (a0_1 : ByteArray) (a0_2 : Int) (a0_3 : Int) (A0_4 : Option Addr) (c0_4 : Nat) (l0_4 : List ByteArray) (A0_5 : Option Addr) (c0_5 : Nat) (l0_5 : List (S33)) (A0_6 : Option Addr) (c0_6 : Nat) (l0_6 : List ByteArray) (A0_7 : Option Addr) (c0_7 : Nat) (l0_7 : List (S36)) (r : Int) (w : World) (hr0_4 : Kd.C Kd.string w A0_4 l0_4.length l0_4) (hc0_4 : l0_4.length ≤ c0_4) (hr0_5 : Kd.C k33 w A0_5 l0_5.length l0_5) (hc0_5 : l0_5.length ≤ c0_5) (hr0_6 : Kd.C Kd.string w A0_6 l0_6.length l0_6) (hc0_6 : l0_6.length ≤ c0_6) (hr0_7 : Kd.C k36 w A0_7 l0_7.length l0_7) (hc0_7 : l0_7.length ≤ c0_7) (h : impl_DepthOfTerm.f k a0_0 a0_1 a0_2 a0_3 l0_4 l0_5 l0_6 l0_7 = some r),
  Calls Try.prog 103 #[.agg #[.int .i64 a0_0, .string a0_1, .int .i64 a0_2, .int .i64 a0_3, .slice A0_4 l0_4.length c0_4, .slice A0_5 l0_5.length c0_5, .slice A0_6 l0_6.length c0_6, .slice A0_7 l0_7.length c0_7]] w fun e w' => e = .returned (.int .i64 r) ∧ Below w.heap.size w w' := by
 induction k using Nat.strongRecOn with
 | _ k ih =>
 intro a0_0 a0_1 a0_2 a0_3 A0_4 c0_4 l0_4 A0_5 c0_5 l0_5 A0_6 c0_6 l0_6 A0_7 c0_7 l0_7 r w hr0_4 hc0_4 hr0_5 hc0_5 hr0_6 hc0_6 hr0_7 hc0_7 h
 cases k with
 | zero => exact absurd h (by simp [impl_DepthOfTerm.f])
 | succ k =>
 simp only [impl_DepthOfTerm.f] at h
 have hu36 := Try.underlying36
 have HR0_4 := Aside0.mk hr0_4
 have HC0_4 := Aside0.mk hc0_4
 clear hr0_4 hc0_4
 have HR0_5 := Aside0.mk hr0_5
 have HC0_5 := Aside0.mk hc0_5
 clear hr0_5 hc0_5
 have HR0_6 := Aside0.mk hr0_6
 have HC0_6 := Aside0.mk hc0_6
 clear hr0_6 hc0_6
 have HR0_7 := Aside0.mk hr0_7
 have HC0_7 := Aside0.mk hc0_7
 clear hr0_7 hc0_7
 have HB := Aside0.mk (Below.refl w.heap.size w)
 have H : (impl_DepthOfTerm.l0 k 0 (l0_7.length : Int) 0 a0_0 a0_1 a0_2 a0_3 l0_4 l0_5 l0_6 l0_7) = some r := h
 clear h
 have H' := Aside0.mk H
 clear H
 go_enter Try.func103, Try.ntmps103
 go_wp2_with (first | ((with_reducible refine gate_dst (N := 1) rfl ?_); refine box_event ?hg (N := 1) ?hd (cs := #[.int .i64 a0_0, .string a0_1, .int .i64 a0_2, .int .i64 a0_3, .slice A0_4 l0_4.length c0_4, .slice A0_5 l0_5.length c0_5, .slice A0_6 l0_6.length c0_6, .slice A0_7 l0_7.length c0_7]) (t := 36) ?hr ?_; (case hd => rfl); (case hg => rfl); (case hr => first | (go_simp; done) | (go_simp; rfl)); intro gb423 hg w2 hbox hb; have n0_ := Aside0.mk (below_step (by repeat (first | (with_reducible first | exact HB.out | apply below_alloc | apply pw_below_drewN | apply below_drew1) | exact HB.out)) hb); have n1_ := Aside0.mk (hbox); have n2_ := Aside0.mk ((by rw [hg]; exact (below_size (by repeat (first | (with_reducible first | exact HB.out | apply below_alloc | apply pw_below_drewN | apply below_drew1) | exact HB.out))) : w.heap.size ≤ gb423)); have n3_ := Aside0.mk ((by rw [hg]; exact (below_size (by repeat (first | (with_reducible first | exact HB.out | apply below_alloc | apply pw_below_drewN | apply below_drew1) | exact HB.out))) : w.heap.size ≤ gb423)); clear HB; have HB := n0_; have BK423 := n1_; have GW423 := n2_; have GE423 := n3_; clear n0_ n1_ n2_ n3_; clear hb hbox hg; have hcz3_0 : w2.cell? ⟨gb423, 0, none⟩ = some (.int .i64 a0_0) := (blk_cell BK423.out 0).trans rfl; have hcz3_1 : w2.cell? ⟨gb423, 1, none⟩ = some (.string a0_1) := (blk_cell BK423.out 1).trans rfl; have hcz3_2 : w2.cell? ⟨gb423, 2, none⟩ = some (.int .i64 a0_2) := (blk_cell BK423.out 2).trans rfl; have hcz3_3 : w2.cell? ⟨gb423, 3, none⟩ = some (.int .i64 a0_3) := (blk_cell BK423.out 3).trans rfl; have hcz3_4 : w2.cell? ⟨gb423, 4, none⟩ = some (.slice A0_4 l0_4.length c0_4) := (blk_cell BK423.out 4).trans rfl; have hcz3_5 : w2.cell? ⟨gb423, 5, none⟩ = some (.slice A0_5 l0_5.length c0_5) := (blk_cell BK423.out 5).trans rfl; have hcz3_6 : w2.cell? ⟨gb423, 6, none⟩ = some (.slice A0_6 l0_6.length c0_6) := (blk_cell BK423.out 6).trans rfl; have hcz3_7 : w2.cell? ⟨gb423, 7, none⟩ = some (.slice A0_7 l0_7.length c0_7) := (blk_cell BK423.out 7).trans rfl; have hfz3_0 := blk_frozen BK423.out 0; have hfz3_1 := blk_frozen BK423.out 1; have hfz3_2 := blk_frozen BK423.out 2; have hfz3_3 := blk_frozen BK423.out 3; have hfz3_4 := blk_frozen BK423.out 4; have hfz3_5 := blk_frozen BK423.out 5; have hfz3_6 := blk_frozen BK423.out 6; have hfz3_7 := blk_frozen BK423.out 7))
 go_loopg [3, 8] k (fun kq v3 v8 w' => ∃ (x3_1 : Int) (x8_1 : Int), v3 = .int .i64 x3_1 ∧ v8 = .int .i64 x8_1 ∧ Aside0 (impl_DepthOfTerm.l0 kq x3_1 (l0_7.length : Int) x8_1 a0_0 a0_1 a0_2 a0_3 l0_4 l0_5 l0_6 l0_7 = some r) ∧ Aside0 (kq ≤ k) ∧ Aside0 (w'.heap[gb423]? = some (.cells #[.int .i64 a0_0, .string a0_1, .int .i64 a0_2, .int .i64 a0_3, (.slice A0_4 l0_4.length c0_4), (.slice A0_5 l0_5.length c0_5), (.slice A0_6 l0_6.length c0_6), (.slice A0_7 l0_7.length c0_7)] 36 (0, 0))) ∧ Aside0 (Below w.heap.size w w'))
 case atStart => exact ⟨(0), (0), (by first | rfl | (simp; done) | (simp [i64_w, i32_w]; done) | (simp [*]; done)), (by first | rfl | (simp; done) | (simp [i64_w, i32_w]; done) | (simp [*]; done)), H', ⟨Nat.le_refl _⟩, ⟨by (with_reducible repeat (first | refine blk_drewN ?_ _ | refine blk_drew ?_ | refine blk_alloc ?_ _)); exact BK423.out⟩, ⟨by repeat (first | (with_reducible first | exact HB.out | apply below_alloc | apply pw_below_drewN | apply below_drew1 | refine below_set ?_ GE423.out) | exact HB.out)⟩⟩
 case round =>
  clear H'
  (try clear c1); (try clear p2); (try clear hcz3_0); (try clear hcz3_1); (try clear hcz3_2); (try clear hcz3_3); (try clear hcz3_4); (try clear hcz3_5); (try clear hcz3_6); (try clear hcz3_7); (try clear hfz3_0); (try clear hfz3_1); (try clear hfz3_2); (try clear hfz3_3); (try clear hfz3_4); (try clear hfz3_5); (try clear hfz3_6); (try clear hfz3_7)
  obtain ⟨x3_1, x8_1, rfl, rfl, HA, HK1, BK423, HB⟩ := hrel
  cases gk with
  | zero => exact absurd HA.out (by simp [impl_DepthOfTerm.l0])
  | succ k1 =>
   have H := HA.out
   clear HA
   simp only [impl_DepthOfTerm.l0] at H
   by_cases c4 : x8_1 < (l0_7.length : Int)
   ·rw [if_pos c4] at H
    have c4b0 : decide (x8_1 < (l0_7.length : Int)) = true := decide_eq_true c4
    clear c4
    by_cases c5 : 0 ≤ x8_1
    ·rw [if_pos c5] at H
     have c5b0 : decide (0 ≤ x8_1) = true := decide_eq_true c5
     clear c5
     by_cases c6 : x8_1 < (l0_7.length : Int)
     ·rw [if_pos c6] at H
      have c6b0 : decide (x8_1 < (l0_7.length : Int)) = true := decide_eq_true c6
      clear c6
      replace H := Option.bind_eq_some_iff.mp H
      obtain ⟨t425, A70, H⟩ := H
      replace H : (impl_DepthOfTerm.l0 k1 (mx x3_1 t425) (l0_7.length : Int) (wrap64 (x8_1 + 1)) a0_0 a0_1 a0_2 a0_3 l0_4 l0_5 l0_6 l0_7) = some r := H
      have A7 := Aside0.mk A70
      clear A70
      obtain ⟨ji8, hji8⟩ : ∃ j_ : Int, (mx x3_1 t425) = j_ := ⟨_, rfl⟩
      replace H : (impl_DepthOfTerm.l0 k1 ji8 (l0_7.length : Int) (wrap64 (x8_1 + 1)) a0_0 a0_1 a0_2 a0_3 l0_4 l0_5 l0_6 l0_7) = some r := by first | (rw [hji8] at H; exact H) | (simp only [hji8] at H ⊢; exact H)
      (try rw [hji8] at A7)
      have hji8_ : (if x3_1 < t425 then t425 else x3_1) = ji8 := hji8
      have H' := Aside0.mk H
      clear H
      have hcz9_0 : wr.cell? ⟨gb423, 0, none⟩ = some (.int .i64 a0_0) := (blk_cell BK423.out 0).trans rfl
      have hcz9_1 : wr.cell? ⟨gb423, 1, none⟩ = some (.string a0_1) := (blk_cell BK423.out 1).trans rfl
      have hcz9_2 : wr.cell? ⟨gb423, 2, none⟩ = some (.int .i64 a0_2) := (blk_cell BK423.out 2).trans rfl
      have hcz9_3 : wr.cell? ⟨gb423, 3, none⟩ = some (.int .i64 a0_3) := (blk_cell BK423.out 3).trans rfl
      have hcz9_4 : wr.cell? ⟨gb423, 4, none⟩ = some (.slice A0_4 l0_4.length c0_4) := (blk_cell BK423.out 4).trans rfl
      have hcz9_5 : wr.cell? ⟨gb423, 5, none⟩ = some (.slice A0_5 l0_5.length c0_5) := (blk_cell BK423.out 5).trans rfl
      have hcz9_6 : wr.cell? ⟨gb423, 6, none⟩ = some (.slice A0_6 l0_6.length c0_6) := (blk_cell BK423.out 6).trans rfl
      have hcz9_7 : wr.cell? ⟨gb423, 7, none⟩ = some (.slice A0_7 l0_7.length c0_7) := (blk_cell BK423.out 7).trans rfl
      have hfz9_0 := blk_frozen BK423.out 0
      have hfz9_1 := blk_frozen BK423.out 1
      have hfz9_2 := blk_frozen BK423.out 2
      have hfz9_3 := blk_frozen BK423.out 3
      have hfz9_4 := blk_frozen BK423.out 4
      have hfz9_5 := blk_frozen BK423.out 5
      have hfz9_6 := blk_frozen BK423.out 6
      have hfz9_7 := blk_frozen BK423.out 7
      have p424 : 0 ≤ (x8_1 : Int) := of_decide_eq_true (by first | (with_reducible assumption) | assumption)
      have q424 : x8_1 < (l0_7.length : Int) := of_decide_eq_true (by first | (with_reducible assumption) | assumption)
      obtain ⟨ad424, A424_4, c424_4, A424_5, c424_5, A424_6, c424_6, A424_7, c424_7, e424, hx424_0, hx424_1, hx424_2, hx424_3, hx424_4, hx424_5, hx424_6, hx424_7, hl424_4, hi424_4, hl424_5, hi424_5, hl424_6, hi424_6, hl424_7, hi424_7⟩ := at_T36 HR0_7.out x8_1 p424 q424
      cases e424
      replace hx424_0 := (HB.out.cell (World.block_lt_of_cell? w _ hx424_0)).trans hx424_0
      replace hx424_1 := (HB.out.cell (World.block_lt_of_cell? w _ hx424_1)).trans hx424_1
      replace hx424_2 := (HB.out.cell (World.block_lt_of_cell? w _ hx424_2)).trans hx424_2
      replace hx424_3 := (HB.out.cell (World.block_lt_of_cell? w _ hx424_3)).trans hx424_3
      replace hx424_4 := (HB.out.cell (World.block_lt_of_cell? w _ hx424_4)).trans hx424_4
      replace hx424_5 := (HB.out.cell (World.block_lt_of_cell? w _ hx424_5)).trans hx424_5
      replace hx424_6 := (HB.out.cell (World.block_lt_of_cell? w _ hx424_6)).trans hx424_6
      replace hx424_7 := (HB.out.cell (World.block_lt_of_cell? w _ hx424_7)).trans hx424_7
      have HR424_4 := Aside0.mk hi424_4
      have HC424_4 := Aside0.mk hl424_4
      clear hi424_4 hl424_4
      have HR424_5 := Aside0.mk hi424_5
      have HC424_5 := Aside0.mk hl424_5
      clear hi424_5 hl424_5
      have HR424_6 := Aside0.mk hi424_6
      have HC424_6 := Aside0.mk hl424_6
      clear hi424_6 hl424_6
      have HR424_7 := Aside0.mk hi424_7
      have HC424_7 := Aside0.mk hl424_7
      clear hi424_7 hl424_7
      replace p424 := eq_true p424
      replace q424 := eq_true q424
      go_wp2_with (first | ((with_reducible refine gate_callee (f := 103) rfl ?_); refine goesL_ (some 17) rfl rfl Try.func103 (by kernel_rfl) rfl #[.agg #[.int .i64 ((rd_T36 l0_7 x8_1).f0), .string ((rd_T36 l0_7 x8_1).f1), .int .i64 ((rd_T36 l0_7 x8_1).f2), .int .i64 ((rd_T36 l0_7 x8_1).f3.f0), .slice A424_4 ((rd_T36 l0_7 x8_1).f3.f1).length c424_4, .slice A424_5 ((rd_T36 l0_7 x8_1).f3.f2).length c424_5, .slice A424_6 ((rd_T36 l0_7 x8_1).f4).length c424_6, .slice A424_7 ((rd_T36 l0_7 x8_1).f5).length c424_7]] rfl (by (try simp only [List.map_toArray, List.map_cons, List.map_nil]); first | done | rfl | (simp only [List.length_drop, List.length_take]; rfl)) ?_; (with_reducible refine (ih k1 (by have := HK1.out; omega) ((rd_T36 l0_7 x8_1).f0) ((rd_T36 l0_7 x8_1).f1) ((rd_T36 l0_7 x8_1).f2) ((rd_T36 l0_7 x8_1).f3.f0) _ _ ((rd_T36 l0_7 x8_1).f3.f1) _ _ ((rd_T36 l0_7 x8_1).f3.f2) _ _ ((rd_T36 l0_7 x8_1).f4) _ _ ((rd_T36 l0_7 x8_1).f5) t425 _ ?side1 ?side2 ?side3 ?side4 ?side5 ?side6 ?side7 ?side8 A7.out).mono ?_); (case side1 => repeat (first | exact (Kd.C_below HR424_4.out HB.out) | (with_reducible refine Kd.C_alloc ?_ _) | (with_reducible refine Kd.C_drewN ?_ _) | (with_reducible refine Kd.C_drew ?_))); (case side2 => exact HC424_4.out); (case side3 => repeat (first | exact (Kd.C_below HR424_5.out HB.out) | (with_reducible refine Kd.C_alloc ?_ _) | (with_reducible refine Kd.C_drewN ?_ _) | (with_reducible refine Kd.C_drew ?_))); (case side4 => exact HC424_5.out); (case side5 => repeat (first | exact (Kd.C_below HR424_6.out HB.out) | (with_reducible refine Kd.C_alloc ?_ _) | (with_reducible refine Kd.C_drewN ?_ _) | (with_reducible refine Kd.C_drew ?_))); (case side6 => exact HC424_6.out); (case side7 => repeat (first | exact (Kd.C_below HR424_7.out HB.out) | (with_reducible refine Kd.C_alloc ?_ _) | (with_reducible refine Kd.C_drewN ?_ _) | (with_reducible refine Kd.C_drew ?_))); (case side8 => exact HC424_7.out); rintro e w10 ⟨rfl, hb⟩; refine ⟨_, rfl, ?_⟩; have n0_ := Aside0.mk (blk_below (g := gb423) (o := .cells #[.int .i64 a0_0, .string a0_1, .int .i64 a0_2, .int .i64 a0_3, .slice A0_4 l0_4.length c0_4, .slice A0_5 l0_5.length c0_5, .slice A0_6 l0_6.length c0_6, .slice (some ad424) l0_7.length c0_7] 36 (0, 0)) (by (with_reducible repeat (first | refine blk_drewN ?_ _ | refine blk_drew ?_ | refine blk_alloc ?_ _)); exact BK423.out) hb); have n1_ := Aside0.mk (below_step (by repeat (first | (with_reducible first | exact HB.out | apply below_alloc | apply pw_below_drewN | apply below_drew1 | refine below_set ?_ GE423.out) | exact HB.out)) hb); clear BK423; clear HB; have BK423 := n0_; have HB := n1_; clear n0_ n1_; (try clear hb); (try clear hb2); (try clear hk); (try clear hi)))
      go_roundg k1
      case measure => have := HK1.out; omega
      case rel => exact ⟨(ji8), (wrap64 (x8_1 + 1)), (by first | rfl | (simp; done) | (simp only [← hji8] <;> (first | rfl | simp)) | (simp [*]; done)), (by first | rfl | (simp; done) | (simp [i64_w, i32_w]; done) | (simp [*]; done)), H', ⟨by have := HK1.out; omega⟩, ⟨by (with_reducible repeat (first | refine blk_drewN ?_ _ | refine blk_drew ?_ | refine blk_alloc ?_ _)); exact BK423.out⟩, ⟨by repeat (first | (with_reducible first | exact HB.out | apply below_alloc | apply pw_below_drewN | apply below_drew1 | refine below_set ?_ GE423.out) | exact HB.out)⟩⟩
     ·rw [if_neg c6] at H
      exact absurd H (by simp)
    ·rw [if_neg c5] at H
     exact absurd H (by simp)
   ·rw [if_neg c4] at H
    have c4b0 : decide (x8_1 < (l0_7.length : Int)) = false := decide_eq_false c4
    clear c4
    obtain rfl := Option.some.inj H
    go_wp2
    go_ret
    exact ⟨by first | rfl | (simp [errW_none, errW_some] <;> rfl) | (simp [*, errW_none, errW_some] <;> rfl), by repeat (first | (with_reducible first | exact HB.out | apply below_alloc | apply pw_below_drewN | apply below_drew1 | refine below_set ?_ GE423.out) | exact HB.out)⟩

/-! ### impl_OpArity: function 187 -/
def impl_OpArity.j0 : Nat → ByteArray → Bool → Option (Int)
 | 0, _, _ => none
 | k + 1, x3, x4 => if x4 = true then (some 2) else (if x3.toList = ([33] : List UInt8) then (some 1) else (some 0))
def impl_OpArity.f (k : Nat) (a0 : ByteArray) : Option (Int) := if a0.toList = ([43] : List UInt8) then (impl_OpArity.j0 k a0 (a0.toList == ([43] : List UInt8))) else (if a0.toList = ([45] : List UInt8) then (impl_OpArity.j0 k a0 (a0.toList == ([45] : List UInt8))) else (if a0.toList = ([61] : List UInt8) then (impl_OpArity.j0 k a0 (a0.toList == ([61] : List UInt8))) else (if a0.toList = ([60] : List UInt8) then (impl_OpArity.j0 k a0 (a0.toList == ([60] : List UInt8))) else (if a0.toList = ([38] : List UInt8) then (impl_OpArity.j0 k a0 (a0.toList == ([38] : List UInt8))) else (impl_OpArity.j0 k a0 (a0.toList == ([124] : List UInt8)))))))
set_option maxHeartbeats 8000000 in
set_option maxRecDepth 100000 in
theorem impl_OpArity.calls (k : Nat) (a0 : ByteArray) (r : Int) (w : World) (h : impl_OpArity.f k a0 = some r) :
  Calls Try.prog 187 #[.string a0] w fun e w' => e = .returned (.int .i64 r) ∧ Drawn0 w w' := by
 have H : (if a0.toList = ([43] : List UInt8) then (impl_OpArity.j0 k a0 (a0.toList == ([43] : List UInt8))) else (if a0.toList = ([45] : List UInt8) then (impl_OpArity.j0 k a0 (a0.toList == ([45] : List UInt8))) else (if a0.toList = ([61] : List UInt8) then (impl_OpArity.j0 k a0 (a0.toList == ([61] : List UInt8))) else (if a0.toList = ([60] : List UInt8) then (impl_OpArity.j0 k a0 (a0.toList == ([60] : List UInt8))) else (if a0.toList = ([38] : List UInt8) then (impl_OpArity.j0 k a0 (a0.toList == ([38] : List UInt8))) else (impl_OpArity.j0 k a0 (a0.toList == ([124] : List UInt8)))))))) = some r := h
 clear h
 have HC2 := Aside0.mk H
 clear H
 go_enter Try.func187, Try.ntmps187
 go_upto_if 4 with (fail)
 go_cut [4] (fun v4 wc => ∃ (kq : Nat) (x4_1 : Bool), v4 = .bool x4_1 ∧ Aside0 (impl_OpArity.j0 kq a0 x4_1 = some r) ∧ Aside0 (kq ≤ k) ∧ Drawn0 w wc)
 case first =>
  have H := HC2.out
  clear HC2
  by_cases c3 : a0.toList = ([43] : List UInt8)
  ·rw [if_pos c3] at H
   have c3b0 : (a0.toList == ([43] : List UInt8)) = true := beq_iff_eq.mpr c3
   have c3b1 : (a0.toList != ([43] : List UInt8)) = false := bne_eq_false_iff_eq.mpr c3
   clear c3
   (first | rw [c3b0] | (simp only [i64_w, i32_w]; rw [c3b0]) | (rw [c3b1]; (try simp only [Bool.not_true, Bool.not_false])) | skip)
   have H' := Aside0.mk H
   clear H
   go_wp2
   go_meet
   case rel => exact ⟨_, ((a0.toList == ([43] : List UInt8))), (by first | rfl | (simp; done) | (simp [i64_w, i32_w]; done) | (simp [*]; done)), H', ⟨by first | omega | exact Nat.le_refl _⟩, by repeat (first | exact Drawn0.refl _ | apply Drawn0.step)⟩
  ·rw [if_neg c3] at H
   have c3b0 : (a0.toList == ([43] : List UInt8)) = false := beq_eq_false_iff_ne.mpr c3
   have c3b1 : (a0.toList != ([43] : List UInt8)) = true := bne_iff_ne.mpr c3
   (first | rw [c3b0] | (simp only [i64_w, i32_w]; rw [c3b0]) | (rw [c3b1]; (try simp only [Bool.not_true, Bool.not_false])) | skip)
   by_cases c4 : a0.toList = ([45] : List UInt8)
   ·rw [if_pos c4] at H
    have c4b0 : (a0.toList == ([45] : List UInt8)) = true := beq_iff_eq.mpr c4
    have c4b1 : (a0.toList != ([45] : List UInt8)) = false := bne_eq_false_iff_eq.mpr c4
    clear c4
    have H' := Aside0.mk H
    clear H
    go_wp2
    go_meet
    case rel => exact ⟨_, ((a0.toList == ([45] : List UInt8))), (by first | rfl | (simp; done) | (simp [i64_w, i32_w]; done) | (simp [*]; done)), H', ⟨by first | omega | exact Nat.le_refl _⟩, by repeat (first | exact Drawn0.refl _ | apply Drawn0.step)⟩
   ·rw [if_neg c4] at H
    have c4b0 : (a0.toList == ([45] : List UInt8)) = false := beq_eq_false_iff_ne.mpr c4
    have c4b1 : (a0.toList != ([45] : List UInt8)) = true := bne_iff_ne.mpr c4
    by_cases c5 : a0.toList = ([61] : List UInt8)
    ·rw [if_pos c5] at H
     have c5b0 : (a0.toList == ([61] : List UInt8)) = true := beq_iff_eq.mpr c5
     have c5b1 : (a0.toList != ([61] : List UInt8)) = false := bne_eq_false_iff_eq.mpr c5
     clear c5
     have H' := Aside0.mk H
     clear H
     go_wp2
     go_meet
     case rel => exact ⟨_, ((a0.toList == ([61] : List UInt8))), (by first | rfl | (simp; done) | (simp [i64_w, i32_w]; done) | (simp [*]; done)), H', ⟨by first | omega | exact Nat.le_refl _⟩, by repeat (first | exact Drawn0.refl _ | apply Drawn0.step)⟩
    ·rw [if_neg c5] at H
     have c5b0 : (a0.toList == ([61] : List UInt8)) = false := beq_eq_false_iff_ne.mpr c5
     have c5b1 : (a0.toList != ([61] : List UInt8)) = true := bne_iff_ne.mpr c5
     by_cases c6 : a0.toList = ([60] : List UInt8)
     ·rw [if_pos c6] at H
      have c6b0 : (a0.toList == ([60] : List UInt8)) = true := beq_iff_eq.mpr c6
      have c6b1 : (a0.toList != ([60] : List UInt8)) = false := bne_eq_false_iff_eq.mpr c6
      clear c6
      have H' := Aside0.mk H
      clear H
      go_wp2
      go_meet
      case rel => exact ⟨_, ((a0.toList == ([60] : List UInt8))), (by first | rfl | (simp; done) | (simp [i64_w, i32_w]; done) | (simp [*]; done)), H', ⟨by first | omega | exact Nat.le_refl _⟩, by repeat (first | exact Drawn0.refl _ | apply Drawn0.step)⟩
     ·rw [if_neg c6] at H
      have c6b0 : (a0.toList == ([60] : List UInt8)) = false := beq_eq_false_iff_ne.mpr c6
      have c6b1 : (a0.toList != ([60] : List UInt8)) = true := bne_iff_ne.mpr c6
      by_cases c7 : a0.toList = ([38] : List UInt8)
      ·rw [if_pos c7] at H
       have c7b0 : (a0.toList == ([38] : List UInt8)) = true := beq_iff_eq.mpr c7
       have c7b1 : (a0.toList != ([38] : List UInt8)) = false := bne_eq_false_iff_eq.mpr c7
       clear c7
       have H' := Aside0.mk H
       clear H
       go_wp2
       go_meet
       case rel => exact ⟨_, ((a0.toList == ([38] : List UInt8))), (by first | rfl | (simp; done) | (simp [i64_w, i32_w]; done) | (simp [*]; done)), H', ⟨by first | omega | exact Nat.le_refl _⟩, by repeat (first | exact Drawn0.refl _ | apply Drawn0.step)⟩
      ·rw [if_neg c7] at H
       have c7b0 : (a0.toList == ([38] : List UInt8)) = false := beq_eq_false_iff_ne.mpr c7
       have c7b1 : (a0.toList != ([38] : List UInt8)) = true := bne_iff_ne.mpr c7
       have H' := Aside0.mk H
       clear H
       go_wp2
       go_meet
       case rel => exact ⟨_, ((a0.toList == ([124] : List UInt8))), (by first | rfl | (simp; done) | (simp [i64_w, i32_w]; done) | (simp [*]; done)), H', ⟨by first | omega | exact Nat.le_refl _⟩, by repeat (first | exact Drawn0.refl _ | apply Drawn0.step)⟩
 case rest =>
  clear HC2
  (try clear c1); (try clear p2); (try clear c3); (try clear c3b0); (try clear c3b1); (try clear c4); (try clear c4b0); (try clear c4b1); (try clear c5); (try clear c5b0); (try clear c5b1); (try clear c6); (try clear c6b0); (try clear c6b1); (try clear c7); (try clear c7b0); (try clear c7b1)
  obtain ⟨kq, x4_1, rfl, HA, HJ1, ⟨mc1, rfl⟩⟩ := hcut
  cases kq with
  | zero => exact absurd HA.out (by simp [impl_OpArity.j0])
  | succ kj1 =>
   have H := HA.out
   clear HA
   simp only [impl_OpArity.j0] at H
   by_cases c8 : x4_1 = true
   ·subst c8
    have H1 : (some 2) = some r := by rw [if_pos rfl] at H; exact H
    clear H
    have H := H1
    clear H1
    obtain rfl := Option.some.inj H
    go_wp2
    go_ret
    exact ⟨by first | rfl | (simp; done) | (simp [i64_w, i32_w]; done) | (simp [*]; done), by repeat (first | exact Drawn0.refl _ | apply Drawn0.step)⟩
   ·replace c8 := Bool.eq_false_iff.mpr c8
    subst c8
    have H1 : (if a0.toList = ([33] : List UInt8) then (some 1) else (some 0)) = some r := by rw [if_neg (show ¬ (false = true) by decide)] at H; exact H
    clear H
    have H := H1
    clear H1
    by_cases c9 : a0.toList = ([33] : List UInt8)
    ·rw [if_pos c9] at H
     have c9b0 : (a0.toList == ([33] : List UInt8)) = true := beq_iff_eq.mpr c9
     have c9b1 : (a0.toList != ([33] : List UInt8)) = false := bne_eq_false_iff_eq.mpr c9
     clear c9
     obtain rfl := Option.some.inj H
     go_wp2
     go_ret
     exact ⟨by first | rfl | (simp; done) | (simp [i64_w, i32_w]; done) | (simp [*]; done), by repeat (first | exact Drawn0.refl _ | apply Drawn0.step)⟩
    ·rw [if_neg c9] at H
     have c9b0 : (a0.toList == ([33] : List UInt8)) = false := beq_eq_false_iff_ne.mpr c9
     have c9b1 : (a0.toList != ([33] : List UInt8)) = true := bne_iff_ne.mpr c9
     obtain rfl := Option.some.inj H
     go_wp2
     go_ret
     exact ⟨by first | rfl | (simp; done) | (simp [i64_w, i32_w]; done) | (simp [*]; done), by repeat (first | exact Drawn0.refl _ | apply Drawn0.step)⟩

end Go.Proofs.Ytppgalehaiagaaa.Px
end
section
namespace Go.Proofs.Ytppgalehaiagaaa.Px
open Go.RowKit Go.Proofs.Ytppgalehaiagaaa.Ext Go.Proofs.YtppgalehaiagaaaW.PrintWords Go.Proofs.YtppgalehaiagaaaW.PrintLast Go.Proofs.YtppgalehaiagaaaW.PrintMore
attribute [local go_sem] max2_int min2_int max_two min_two max_three min_three max_four min_four   -- for this text's walks alone
set_option linter.unusedVariables false
set_option linter.unusedSimpArgs false

/-! ### impl_shape: function 175 -/
mutual
def impl_shape.j0 : Nat → Int → Bool → ByteArray → List ByteArray → Option (Int × Bool × Bool × Bool)
 | 0, _, _, _, _ => none
 | k + 1, x9, x10, x701, x706 => if x10 = true then (some (0, true, false, true)) else (if x9 = 2 then (impl_shape.j1 k x9 (x9 == 2) x701 x706) else (impl_shape.j1 k x9 (x9 == 3) x701 x706))
def impl_shape.j1 : Nat → Int → Bool → ByteArray → List ByteArray → Option (Int × Bool × Bool × Bool)
 | 0, _, _, _, _ => none
 | k + 1, x9, x13, x701, x706 => if x13 = true then (some (0, false, false, true)) else (if x9 = 4 then ((impl_OpArity.f k x701).bind fun t426 => (some (t426, true, false, decide (t426 > 0)))) else (if x9 = 5 then ((impl_labelsOk.f k x706).bind fun t427 => (some ((x706.length : Int), false, false, t427))) else (if x9 = 6 then (some (1, true, false, true)) else (if x9 = 7 then (some (0, false, true, true)) else (if x9 = 8 then (impl_shape.j2 k x9 (x9 == 8)) else (if x9 = 15 then (impl_shape.j2 k x9 (x9 == 15)) else (impl_shape.j2 k x9 (x9 == 16))))))))
def impl_shape.j2 : Nat → Int → Bool → Option (Int × Bool × Bool × Bool)
 | 0, _, _ => none
 | k + 1, x9, x45 => if x45 = true then (some (1, false, false, true)) else (if x9 = 9 then (impl_shape.j3 k x9 (x9 == 9)) else (impl_shape.j3 k x9 (x9 == 14)))
def impl_shape.j3 : Nat → Int → Bool → Option (Int × Bool × Bool × Bool)
 | 0, _, _ => none
 | k + 1, x9, x49 => if x49 = true then (some (2, false, false, true)) else (if x9 = 10 then (some (2, true, false, true)) else (if x9 = 11 then (some (3, false, false, true)) else (if x9 = 13 then (some (1, true, true, true)) else (some (0, false, false, false)))))
end
def impl_shape.f (k : Nat) (a0_0 : Int) (a0_1 : ByteArray) (a0_2 : Int) (a0_3 : Int) (l0_4 : List ByteArray) (l0_5 : List (S33)) (l0_6 : List ByteArray) (l0_7 : List (S36)) : Option (Int × Bool × Bool × Bool) := if a0_0 = 1 then (impl_shape.j0 k a0_0 (a0_0 == 1) a0_1 l0_6) else (impl_shape.j0 k a0_0 (a0_0 == 12) a0_1 l0_6)
set_option maxHeartbeats 8000000 in
set_option maxRecDepth 100000 in
theorem impl_shape.calls (k : Nat) (ad0 : Addr) (a0_0 : Int) (a0_1 : ByteArray) (a0_2 : Int) (a0_3 : Int) (A0_4 : Option Addr) (c0_4 : Nat) (l0_4 : List ByteArray) (A0_5 : Option Addr) (c0_5 : Nat) (l0_5 : List (S33)) (A0_6 : Option Addr) (c0_6 : Nat) (l0_6 : List ByteArray) (A0_7 : Option Addr) (c0_7 : Nat) (l0_7 : List (S36)) (r1 : Int) (r2 : Bool) (r3 : Bool) (r4 : Bool) (w : World) (hp0 : Cells w ad0 [.int .i64 a0_0, .string a0_1, .int .i64 a0_2, .int .i64 a0_3, .slice A0_4 l0_4.length c0_4, .slice A0_5 l0_5.length c0_5, .slice A0_6 l0_6.length c0_6, .slice A0_7 l0_7.length c0_7]) (hr0_4 : Kd.C Kd.string w A0_4 l0_4.length l0_4) (hc0_4 : l0_4.length ≤ c0_4) (hr0_5 : Kd.C k33 w A0_5 l0_5.length l0_5) (hc0_5 : l0_5.length ≤ c0_5) (hr0_6 : Kd.C Kd.string w A0_6 l0_6.length l0_6) (hc0_6 : l0_6.length ≤ c0_6) (hr0_7 : Kd.C k36 w A0_7 l0_7.length l0_7) (hc0_7 : l0_7.length ≤ c0_7) (h : impl_shape.f k a0_0 a0_1 a0_2 a0_3 l0_4 l0_5 l0_6 l0_7 = some (r1, r2, r3, r4)) :
  Calls Try.prog 175 #[.pointer (some ad0)] w fun e w' => e = .returned (.tuple #[.int .i64 r1, .bool r2, .bool r3, .bool r4]) ∧ Drawn0 w w' := by
 have HP0 := Aside0.mk hp0
 clear hp0
 have HR0_4 := Aside0.mk hr0_4
 have HC0_4 := Aside0.mk hc0_4
 clear hr0_4 hc0_4
 have HR0_5 := Aside0.mk hr0_5
 have HC0_5 := Aside0.mk hc0_5
 clear hr0_5 hc0_5
 have HR0_6 := Aside0.mk hr0_6
 have HC0_6 := Aside0.mk hc0_6
 clear hr0_6 hc0_6
 have HR0_7 := Aside0.mk hr0_7
 have HC0_7 := Aside0.mk hc0_7
 clear hr0_7 hc0_7
 have H : (if a0_0 = 1 then (impl_shape.j0 k a0_0 (a0_0 == 1) a0_1 l0_6) else (impl_shape.j0 k a0_0 (a0_0 == 12) a0_1 l0_6)) = some (r1, r2, r3, r4) := h
 clear h
 have HC2 := Aside0.mk H
 clear H
 have hxr3_0 : w.cell? ad0 = some (.int .i64 a0_0) := HP0.out.1
 have hxr3_1 : w.cell? ⟨ad0.block, ad0.off + 1, none⟩ = some (.string a0_1) := HP0.out.2.1
 have hxr3_2 : w.cell? ⟨ad0.block, ad0.off + 2, none⟩ = some (.int .i64 a0_2) := HP0.out.2.2.1
 have hxr3_3 : w.cell? ⟨ad0.block, ad0.off + 3, none⟩ = some (.int .i64 a0_3) := HP0.out.2.2.2.1
 have hxr3_4 : w.cell? ⟨ad0.block, ad0.off + 4, none⟩ = some (.slice A0_4 l0_4.length c0_4) := HP0.out.2.2.2.2.1
 have hxr3_5 : w.cell? ⟨ad0.block, ad0.off + 5, none⟩ = some (.slice A0_5 l0_5.length c0_5) := HP0.out.2.2.2.2.2.1
 have hxr3_6 : w.cell? ⟨ad0.block, ad0.off + 6, none⟩ = some (.slice A0_6 l0_6.length c0_6) := HP0.out.2.2.2.2.2.2.1
 have hxr3_7 : w.cell? ⟨ad0.block, ad0.off + 7, none⟩ = some (.slice A0_7 l0_7.length c0_7) := HP0.out.2.2.2.2.2.2.2.1
 go_enter Try.func175, Try.ntmps175
 go_upto_if 10 with (fail)
 repeat (go_quiet (fail); go_upto_if 10 with (fail))
 go_cut [10] (fun v10 wc => ∃ (kq : Nat) (x10_1 : Bool), v10 = .bool x10_1 ∧ Aside0 (impl_shape.j0 kq a0_0 x10_1 a0_1 l0_6 = some (r1, r2, r3, r4)) ∧ Aside0 (kq ≤ k) ∧ Drawn0 w wc)
 case first =>
  have H := HC2.out
  clear HC2
  by_cases c4 : a0_0 = 1
  ·rw [if_pos c4] at H
   have c4b0 : (a0_0 == 1) = true := beq_iff_eq.mpr c4
   have c4b1 : (a0_0 != 1) = false := bne_eq_false_iff_eq.mpr c4
   clear c4
   (first | rw [c4b0] | (simp only [i64_w, i32_w]; rw [c4b0]) | (rw [c4b1]; (try simp only [Bool.not_true, Bool.not_false])) | skip)
   have H' := Aside0.mk H
   clear H
   go_wp2
   repeat (go_quiet (fail); try go_wp2)
   go_meet
   case rel => exact ⟨_, ((a0_0 == 1)), (by first | rfl | (simp; done) | (simp [i64_w, i32_w]; done) | (simp [*]; done)), H', ⟨by first | omega | exact Nat.le_refl _⟩, by repeat (first | exact Drawn0.refl _ | apply Drawn0.step)⟩
  ·rw [if_neg c4] at H
   have c4b0 : (a0_0 == 1) = false := beq_eq_false_iff_ne.mpr c4
   have c4b1 : (a0_0 != 1) = true := bne_iff_ne.mpr c4
   (first | rw [c4b0] | (simp only [i64_w, i32_w]; rw [c4b0]) | (rw [c4b1]; (try simp only [Bool.not_true, Bool.not_false])) | skip)
   have H' := Aside0.mk H
   clear H
   go_wp2
   repeat (go_quiet (fail); try go_wp2)
   go_meet
   case rel => exact ⟨_, ((a0_0 == 12)), (by first | rfl | (simp; done) | (simp [i64_w, i32_w]; done) | (simp [*]; done)), H', ⟨by first | omega | exact Nat.le_refl _⟩, by repeat (first | exact Drawn0.refl _ | apply Drawn0.step)⟩
 case rest =>
  clear HC2
  (try clear c1); (try clear p2); (try clear c4); (try clear c4b0); (try clear c4b1)
  obtain ⟨kq, x10_1, rfl, HA, HJ1, ⟨mc1, rfl⟩⟩ := hcut
  cases kq with
  | zero => exact absurd HA.out (by simp [impl_shape.j0])
  | succ kj1 =>
   have H := HA.out
   clear HA
   simp only [impl_shape.j0] at H
   by_cases c5 : x10_1 = true
   ·subst c5
    have H1 : (some (0, true, false, true)) = some (r1, r2, r3, r4) := by rw [if_pos rfl] at H; exact H
    clear H
    have H := H1
    clear H1
    simp only [Option.some.injEq, Prod.mk.injEq] at H
    obtain ⟨rfl, rfl, rfl, rfl⟩ := H
    go_wp2
    repeat (go_quiet (fail); try go_wp2)
    refine bodyPost_ret (results_list (rs := [.tmp 2, .tmp 3, .tmp 4, .tmp 5]) rfl (by simp) (.tmp (.tmp (.tmp (.tmp .nil))))) rfl ?_
    exact ⟨by first | rfl | (simp; done) | (simp [i64_w, i32_w]; done) | (simp [*]; done), by repeat (first | exact Drawn0.refl _ | apply Drawn0.step)⟩
   ·replace c5 := Bool.eq_false_iff.mpr c5
    subst c5
    have H1 : (if a0_0 = 2 then (impl_shape.j1 kj1 a0_0 (a0_0 == 2) a0_1 l0_6) else (impl_shape.j1 kj1 a0_0 (a0_0 == 3) a0_1 l0_6)) = some (r1, r2, r3, r4) := by rw [if_neg (show ¬ (false = true) by decide)] at H; exact H
    clear H
    have H := H1
    clear H1
    have HC6 := Aside0.mk H
    clear H
    go_upto_if 13 with (fail)
    repeat (go_quiet (fail); go_upto_if 13 with (fail))
    go_cut [13] (fun v13 wc => ∃ (kq : Nat) (x13_5 : Bool), v13 = .bool x13_5 ∧ Aside0 (impl_shape.j1 kq a0_0 x13_5 a0_1 l0_6 = some (r1, r2, r3, r4)) ∧ Aside0 (kq ≤ kj1) ∧ Drawn0 w wc)
    case first =>
     have H := HC6.out
     clear HC6
     by_cases c7 : a0_0 = 2
     ·rw [if_pos c7] at H
      have c7b0 : (a0_0 == 2) = true := beq_iff_eq.mpr c7
      have c7b1 : (a0_0 != 2) = false := bne_eq_false_iff_eq.mpr c7
      clear c7
      (first | rw [c7b0] | (simp only [i64_w, i32_w]; rw [c7b0]) | (rw [c7b1]; (try simp only [Bool.not_true, Bool.not_false])) | skip)
      have H' := Aside0.mk H
      clear H
      go_wp2
      repeat (go_quiet (fail); try go_wp2)
      go_meet
      case rel => exact ⟨_, ((a0_0 == 2)), (by first | rfl | (simp; done) | (simp [i64_w, i32_w]; done) | (simp [*]; done)), H', ⟨by have := HJ1.out; first | omega | exact Nat.le_refl _⟩, by repeat (first | exact Drawn0.refl _ | apply Drawn0.step)⟩
     ·rw [if_neg c7] at H
      have c7b0 : (a0_0 == 2) = false := beq_eq_false_iff_ne.mpr c7
      have c7b1 : (a0_0 != 2) = true := bne_iff_ne.mpr c7
      (first | rw [c7b0] | (simp only [i64_w, i32_w]; rw [c7b0]) | (rw [c7b1]; (try simp only [Bool.not_true, Bool.not_false])) | skip)
      have H' := Aside0.mk H
      clear H
      go_wp2
      repeat (go_quiet (fail); try go_wp2)
      go_meet
      case rel => exact ⟨_, ((a0_0 == 3)), (by first | rfl | (simp; done) | (simp [i64_w, i32_w]; done) | (simp [*]; done)), H', ⟨by have := HJ1.out; first | omega | exact Nat.le_refl _⟩, by repeat (first | exact Drawn0.refl _ | apply Drawn0.step)⟩
    case rest =>
     clear HC6
     (try clear c1); (try clear p2); (try clear c4); (try clear c4b0); (try clear c4b1); (try clear c5); (try clear c7); (try clear c7b0); (try clear c7b1); (try clear p2)
     obtain ⟨kq, x13_5, rfl, HA, HJ5, ⟨mc5, rfl⟩⟩ := hcut
     cases kq with
     | zero => exact absurd HA.out (by simp [impl_shape.j1])
     | succ kj5 =>
      have H := HA.out
      clear HA
      simp only [impl_shape.j1] at H
      by_cases c8 : x13_5 = true
      ·subst c8
       have H1 : (some (0, false, false, true)) = some (r1, r2, r3, r4) := by rw [if_pos rfl] at H; exact H
       clear H
       have H := H1
       clear H1
       simp only [Option.some.injEq, Prod.mk.injEq] at H
       obtain ⟨rfl, rfl, rfl, rfl⟩ := H
       go_wp2
       repeat (go_quiet (fail); try go_wp2)
       refine bodyPost_ret (results_list (rs := [.tmp 2, .tmp 3, .tmp 4, .tmp 5]) rfl (by simp) (.tmp (.tmp (.tmp (.tmp .nil))))) rfl ?_
       exact ⟨by first | rfl | (simp; done) | (simp [i64_w, i32_w]; done) | (simp [*]; done), by repeat (first | exact Drawn0.refl _ | apply Drawn0.step)⟩
      ·replace c8 := Bool.eq_false_iff.mpr c8
       subst c8
       have H1 : (if a0_0 = 4 then ((impl_OpArity.f kj5 a0_1).bind fun t426 => (some (t426, true, false, decide (t426 > 0)))) else (if a0_0 = 5 then ((impl_labelsOk.f kj5 l0_6).bind fun t427 => (some ((l0_6.length : Int), false, false, t427))) else (if a0_0 = 6 then (some (1, true, false, true)) else (if a0_0 = 7 then (some (0, false, true, true)) else (if a0_0 = 8 then (impl_shape.j2 kj5 a0_0 (a0_0 == 8)) else (if a0_0 = 15 then (impl_shape.j2 kj5 a0_0 (a0_0 == 15)) else (impl_shape.j2 kj5 a0_0 (a0_0 == 16)))))))) = some (r1, r2, r3, r4) := by rw [if_neg (show ¬ (false = true) by decide)] at H; exact H
       clear H
       have H := H1
       clear H1
       by_cases c9 : a0_0 = 4
       ·rw [if_pos c9] at H
        have c9b0 : (a0_0 == 4) = true := beq_iff_eq.mpr c9
        have c9b1 : (a0_0 != 4) = false := bne_eq_false_iff_eq.mpr c9
        clear c9
        replace H := Option.bind_eq_some_iff.mp H
        obtain ⟨t426, A100, H⟩ := H
        replace H : (some (t426, true, false, decide (t426 > 0))) = some (r1, r2, r3, r4) := H
        have A10 := Aside0.mk A100
        clear A100
        simp only [Option.some.injEq, Prod.mk.injEq] at H
        obtain ⟨rfl, rfl, rfl, rfl⟩ := H
        have hxr11_0 : w.cell? ad0 = some (.int .i64 a0_0) := HP0.out.1
        have hxr11_1 : w.cell? ⟨ad0.block, ad0.off + 1, none⟩ = some (.string a0_1) := HP0.out.2.1
        have hxr11_2 : w.cell? ⟨ad0.block, ad0.off + 2, none⟩ = some (.int .i64 a0_2) := HP0.out.2.2.1
        have hxr11_3 : w.cell? ⟨ad0.block, ad0.off + 3, none⟩ = some (.int .i64 a0_3) := HP0.out.2.2.2.1
        have hxr11_4 : w.cell? ⟨ad0.block, ad0.off + 4, none⟩ = some (.slice A0_4 l0_4.length c0_4) := HP0.out.2.2.2.2.1
        have hxr11_5 : w.cell? ⟨ad0.block, ad0.off + 5, none⟩ = some (.slice A0_5 l0_5.length c0_5) := HP0.out.2.2.2.2.2.1
        have hxr11_6 : w.cell? ⟨ad0.block, ad0.off + 6, none⟩ = some (.slice A0_6 l0_6.length c0_6) := HP0.out.2.2.2.2.2.2.1
        have hxr11_7 : w.cell? ⟨ad0.block, ad0.off + 7, none⟩ = some (.slice A0_7 l0_7.length c0_7) := HP0.out.2.2.2.2.2.2.2.1
        go_wp2_with (first | (go_at_call 187; (with_reducible refine (impl_OpArity.calls kj5 a0_1 t426 _ A10.out).mono ?_); rintro e w' ⟨rfl, ⟨nd, rfl⟩⟩; (try first | exact ⟨rfl, _, World.drewN_drewN _ _ _⟩ | exact ⟨rfl, _, Eq.trans (World.drewN_drewN _ _ _) (congrArg (World.drewN _) (Nat.add_assoc _ _ _))⟩)))
        repeat (go_quiet (first | (go_at_call 187; (with_reducible refine (impl_OpArity.calls kj5 a0_1 t426 _ A10.out).mono ?_); rintro e w' ⟨rfl, ⟨nd, rfl⟩⟩; (try first | exact ⟨rfl, _, World.drewN_drewN _ _ _⟩ | exact ⟨rfl, _, Eq.trans (World.drewN_drewN _ _ _) (congrArg (World.drewN _) (Nat.add_assoc _ _ _))⟩))); try go_wp2_with (first | (go_at_call 187; (with_reducible refine (impl_OpArity.calls kj5 a0_1 t426 _ A10.out).mono ?_); rintro e w' ⟨rfl, ⟨nd, rfl⟩⟩; (try first | exact ⟨rfl, _, World.drewN_drewN _ _ _⟩ | exact ⟨rfl, _, Eq.trans (World.drewN_drewN _ _ _) (congrArg (World.drewN _) (Nat.add_assoc _ _ _))⟩))))
        refine bodyPost_ret (results_list (rs := [.tmp 2, .tmp 3, .tmp 4, .tmp 5]) rfl (by simp) (.tmp (.tmp (.tmp (.tmp .nil))))) rfl ?_
        exact ⟨by first | rfl | (simp; done) | (simp [i64_w, i32_w]; done) | (simp [*]; done), by repeat (first | exact Drawn0.refl _ | apply Drawn0.step)⟩
       ·rw [if_neg c9] at H
        have c9b0 : (a0_0 == 4) = false := beq_eq_false_iff_ne.mpr c9
        have c9b1 : (a0_0 != 4) = true := bne_iff_ne.mpr c9
        by_cases c12 : a0_0 = 5
        ·rw [if_pos c12] at H
         have c12b0 : (a0_0 == 5) = true := beq_iff_eq.mpr c12
         have c12b1 : (a0_0 != 5) = false := bne_eq_false_iff_eq.mpr c12
         clear c12
         replace H := Option.bind_eq_some_iff.mp H
         obtain ⟨t427, A130, H⟩ := H
         replace H : (some ((l0_6.length : Int), false, false, t427)) = some (r1, r2, r3, r4) := H
         have A13 := Aside0.mk A130
         clear A130
         simp only [Option.some.injEq, Prod.mk.injEq] at H
         obtain ⟨rfl, rfl, rfl, rfl⟩ := H
         have hxr14_0 : w.cell? ad0 = some (.int .i64 a0_0) := HP0.out.1
         have hxr14_1 : w.cell? ⟨ad0.block, ad0.off + 1, none⟩ = some (.string a0_1) := HP0.out.2.1
         have hxr14_2 : w.cell? ⟨ad0.block, ad0.off + 2, none⟩ = some (.int .i64 a0_2) := HP0.out.2.2.1
         have hxr14_3 : w.cell? ⟨ad0.block, ad0.off + 3, none⟩ = some (.int .i64 a0_3) := HP0.out.2.2.2.1
         have hxr14_4 : w.cell? ⟨ad0.block, ad0.off + 4, none⟩ = some (.slice A0_4 l0_4.length c0_4) := HP0.out.2.2.2.2.1
         have hxr14_5 : w.cell? ⟨ad0.block, ad0.off + 5, none⟩ = some (.slice A0_5 l0_5.length c0_5) := HP0.out.2.2.2.2.2.1
         have hxr14_6 : w.cell? ⟨ad0.block, ad0.off + 6, none⟩ = some (.slice A0_6 l0_6.length c0_6) := HP0.out.2.2.2.2.2.2.1
         have hxr14_7 : w.cell? ⟨ad0.block, ad0.off + 7, none⟩ = some (.slice A0_7 l0_7.length c0_7) := HP0.out.2.2.2.2.2.2.2.1
         go_wp2_with (first | (go_at_call 169; (with_reducible refine (impl_labelsOk.calls kj5 _ _ l0_6 t427 _ ?side1 ?side2 A13.out).mono ?_); (case side1 => repeat (first | exact HR0_6.out | (with_reducible refine Kd.C_alloc ?_ _) | (with_reducible refine Kd.C_drewN ?_ _) | (with_reducible refine Kd.C_drew ?_))); (case side2 => exact HC0_6.out); rintro e w' ⟨rfl, ⟨nd, rfl⟩⟩; (try first | exact ⟨rfl, _, World.drewN_drewN _ _ _⟩ | exact ⟨rfl, _, Eq.trans (World.drewN_drewN _ _ _) (congrArg (World.drewN _) (Nat.add_assoc _ _ _))⟩)))
         repeat (go_quiet (first | (go_at_call 169; (with_reducible refine (impl_labelsOk.calls kj5 _ _ l0_6 t427 _ ?side1 ?side2 A13.out).mono ?_); (case side1 => repeat (first | exact HR0_6.out | (with_reducible refine Kd.C_alloc ?_ _) | (with_reducible refine Kd.C_drewN ?_ _) | (with_reducible refine Kd.C_drew ?_))); (case side2 => exact HC0_6.out); rintro e w' ⟨rfl, ⟨nd, rfl⟩⟩; (try first | exact ⟨rfl, _, World.drewN_drewN _ _ _⟩ | exact ⟨rfl, _, Eq.trans (World.drewN_drewN _ _ _) (congrArg (World.drewN _) (Nat.add_assoc _ _ _))⟩))); try go_wp2_with (first | (go_at_call 169; (with_reducible refine (impl_labelsOk.calls kj5 _ _ l0_6 t427 _ ?side1 ?side2 A13.out).mono ?_); (case side1 => repeat (first | exact HR0_6.out | (with_reducible refine Kd.C_alloc ?_ _) | (with_reducible refine Kd.C_drewN ?_ _) | (with_reducible refine Kd.C_drew ?_))); (case side2 => exact HC0_6.out); rintro e w' ⟨rfl, ⟨nd, rfl⟩⟩; (try first | exact ⟨rfl, _, World.drewN_drewN _ _ _⟩ | exact ⟨rfl, _, Eq.trans (World.drewN_drewN _ _ _) (congrArg (World.drewN _) (Nat.add_assoc _ _ _))⟩))))
         refine bodyPost_ret (results_list (rs := [.tmp 2, .tmp 3, .tmp 4, .tmp 5]) rfl (by simp) (.tmp (.tmp (.tmp (.tmp .nil))))) rfl ?_
         exact ⟨by first | rfl | (simp; done) | (simp [i64_w, i32_w]; done) | (simp [*]; done), by repeat (first | exact Drawn0.refl _ | apply Drawn0.step)⟩
        ·rw [if_neg c12] at H
         have c12b0 : (a0_0 == 5) = false := beq_eq_false_iff_ne.mpr c12
         have c12b1 : (a0_0 != 5) = true := bne_iff_ne.mpr c12
         by_cases c15 : a0_0 = 6
         ·rw [if_pos c15] at H
          have c15b0 : (a0_0 == 6) = true := beq_iff_eq.mpr c15
          have c15b1 : (a0_0 != 6) = false := bne_eq_false_iff_eq.mpr c15
          clear c15
          simp only [Option.some.injEq, Prod.mk.injEq] at H
          obtain ⟨rfl, rfl, rfl, rfl⟩ := H
          go_wp2
          repeat (go_quiet (fail); try go_wp2)
          refine bodyPost_ret (results_list (rs := [.tmp 2, .tmp 3, .tmp 4, .tmp 5]) rfl (by simp) (.tmp (.tmp (.tmp (.tmp .nil))))) rfl ?_
          exact ⟨by first | rfl | (simp; done) | (simp [i64_w, i32_w]; done) | (simp [*]; done), by repeat (first | exact Drawn0.refl _ | apply Drawn0.step)⟩
         ·rw [if_neg c15] at H
          have c15b0 : (a0_0 == 6) = false := beq_eq_false_iff_ne.mpr c15
          have c15b1 : (a0_0 != 6) = true := bne_iff_ne.mpr c15
          by_cases c16 : a0_0 = 7
          ·rw [if_pos c16] at H
           have c16b0 : (a0_0 == 7) = true := beq_iff_eq.mpr c16
           have c16b1 : (a0_0 != 7) = false := bne_eq_false_iff_eq.mpr c16
           clear c16
           simp only [Option.some.injEq, Prod.mk.injEq] at H
           obtain ⟨rfl, rfl, rfl, rfl⟩ := H
           go_wp2
           repeat (go_quiet (fail); try go_wp2)
           refine bodyPost_ret (results_list (rs := [.tmp 2, .tmp 3, .tmp 4, .tmp 5]) rfl (by simp) (.tmp (.tmp (.tmp (.tmp .nil))))) rfl ?_
           exact ⟨by first | rfl | (simp; done) | (simp [i64_w, i32_w]; done) | (simp [*]; done), by repeat (first | exact Drawn0.refl _ | apply Drawn0.step)⟩
          ·rw [if_neg c16] at H
           have c16b0 : (a0_0 == 7) = false := beq_eq_false_iff_ne.mpr c16
           have c16b1 : (a0_0 != 7) = true := bne_iff_ne.mpr c16
           have HC17 := Aside0.mk H
           clear H
           go_upto_if 45 with (fail)
           repeat (go_quiet (fail); go_upto_if 45 with (fail))
           go_cut [45] (fun v45 wc => ∃ (kq : Nat) (x45_16 : Bool), v45 = .bool x45_16 ∧ Aside0 (impl_shape.j2 kq a0_0 x45_16 = some (r1, r2, r3, r4)) ∧ Aside0 (kq ≤ kj5) ∧ Drawn0 w wc)
           case first =>
            have H := HC17.out
            clear HC17
            by_cases c18 : a0_0 = 8
            ·rw [if_pos c18] at H
             have c18b0 : (a0_0 == 8) = true := beq_iff_eq.mpr c18
             have c18b1 : (a0_0 != 8) = false := bne_eq_false_iff_eq.mpr c18
             clear c18
             (first | rw [c18b0] | (simp only [i64_w, i32_w]; rw [c18b0]) | (rw [c18b1]; (try simp only [Bool.not_true, Bool.not_false])) | skip)
             have H' := Aside0.mk H
             clear H
             go_wp2
             repeat (go_quiet (fail); try go_wp2)
             go_meet
             case rel => exact ⟨_, ((a0_0 == 8)), (by first | rfl | (simp; done) | (simp [i64_w, i32_w]; done) | (simp [*]; done)), H', ⟨by have := HJ1.out; have := HJ5.out; first | omega | exact Nat.le_refl _⟩, by repeat (first | exact Drawn0.refl _ | apply Drawn0.step)⟩
            ·rw [if_neg c18] at H
             have c18b0 : (a0_0 == 8) = false := beq_eq_false_iff_ne.mpr c18
             have c18b1 : (a0_0 != 8) = true := bne_iff_ne.mpr c18
             (first | rw [c18b0] | (simp only [i64_w, i32_w]; rw [c18b0]) | (rw [c18b1]; (try simp only [Bool.not_true, Bool.not_false])) | skip)
             by_cases c19 : a0_0 = 15
             ·rw [if_pos c19] at H
              have c19b0 : (a0_0 == 15) = true := beq_iff_eq.mpr c19
              have c19b1 : (a0_0 != 15) = false := bne_eq_false_iff_eq.mpr c19
              clear c19
              have H' := Aside0.mk H
              clear H
              go_wp2
              repeat (go_quiet (fail); try go_wp2)
              go_meet
              case rel => exact ⟨_, ((a0_0 == 15)), (by first | rfl | (simp; done) | (simp [i64_w, i32_w]; done) | (simp [*]; done)), H', ⟨by have := HJ1.out; have := HJ5.out; first | omega | exact Nat.le_refl _⟩, by repeat (first | exact Drawn0.refl _ | apply Drawn0.step)⟩
             ·rw [if_neg c19] at H
              have c19b0 : (a0_0 == 15) = false := beq_eq_false_iff_ne.mpr c19
              have c19b1 : (a0_0 != 15) = true := bne_iff_ne.mpr c19
              have H' := Aside0.mk H
              clear H
              go_wp2
              repeat (go_quiet (fail); try go_wp2)
              go_meet
              case rel => exact ⟨_, ((a0_0 == 16)), (by first | rfl | (simp; done) | (simp [i64_w, i32_w]; done) | (simp [*]; done)), H', ⟨by have := HJ1.out; have := HJ5.out; first | omega | exact Nat.le_refl _⟩, by repeat (first | exact Drawn0.refl _ | apply Drawn0.step)⟩
           case rest =>
            clear HC17
            (try clear c1); (try clear p2); (try clear c4); (try clear c4b0); (try clear c4b1); (try clear c5); (try clear c7); (try clear c7b0); (try clear c7b1); (try clear c8); (try clear c9); (try clear c9b0); (try clear c9b1); (try clear c12); (try clear c12b0); (try clear c12b1); (try clear c15); (try clear c15b0); (try clear c15b1); (try clear c16); (try clear c16b0); (try clear c16b1); (try clear c17); (try clear c18); (try clear c18b0); (try clear c18b1); (try clear c19); (try clear c19b0); (try clear c19b1); (try clear p2)
            obtain ⟨kq, x45_16, rfl, HA, HJ16, ⟨mc16, rfl⟩⟩ := hcut
            cases kq with
            | zero => exact absurd HA.out (by simp [impl_shape.j2])
            | succ kj16 =>
             have H := HA.out
             clear HA
             simp only [impl_shape.j2] at H
             by_cases c20 : x45_16 = true
             ·subst c20
              have H1 : (some (1, false, false, true)) = some (r1, r2, r3, r4) := by rw [if_pos rfl] at H; exact H
              clear H
              have H := H1
              clear H1
              simp only [Option.some.injEq, Prod.mk.injEq] at H
              obtain ⟨rfl, rfl, rfl, rfl⟩ := H
              go_wp2
              repeat (go_quiet (fail); try go_wp2)
              refine bodyPost_ret (results_list (rs := [.tmp 2, .tmp 3, .tmp 4, .tmp 5]) rfl (by simp) (.tmp (.tmp (.tmp (.tmp .nil))))) rfl ?_
              exact ⟨by first | rfl | (simp; done) | (simp [i64_w, i32_w]; done) | (simp [*]; done), by repeat (first | exact Drawn0.refl _ | apply Drawn0.step)⟩
             ·replace c20 := Bool.eq_false_iff.mpr c20
              subst c20
              have H1 : (if a0_0 = 9 then (impl_shape.j3 kj16 a0_0 (a0_0 == 9)) else (impl_shape.j3 kj16 a0_0 (a0_0 == 14))) = some (r1, r2, r3, r4) := by rw [if_neg (show ¬ (false = true) by decide)] at H; exact H
              clear H
              have H := H1
              clear H1
              have HC21 := Aside0.mk H
              clear H
              go_upto_if 49 with (fail)
              repeat (go_quiet (fail); go_upto_if 49 with (fail))
              go_cut [49] (fun v49 wc => ∃ (kq : Nat) (x49_20 : Bool), v49 = .bool x49_20 ∧ Aside0 (impl_shape.j3 kq a0_0 x49_20 = some (r1, r2, r3, r4)) ∧ Aside0 (kq ≤ kj16) ∧ Drawn0 w wc)
              case first =>
               have H := HC21.out
               clear HC21
               by_cases c22 : a0_0 = 9
               ·rw [if_pos c22] at H
                have c22b0 : (a0_0 == 9) = true := beq_iff_eq.mpr c22
                have c22b1 : (a0_0 != 9) = false := bne_eq_false_iff_eq.mpr c22
                clear c22
                (first | rw [c22b0] | (simp only [i64_w, i32_w]; rw [c22b0]) | (rw [c22b1]; (try simp only [Bool.not_true, Bool.not_false])) | skip)
                have H' := Aside0.mk H
                clear H
                go_wp2
                repeat (go_quiet (fail); try go_wp2)
                go_meet
                case rel => exact ⟨_, ((a0_0 == 9)), (by first | rfl | (simp; done) | (simp [i64_w, i32_w]; done) | (simp [*]; done)), H', ⟨by have := HJ1.out; have := HJ5.out; have := HJ16.out; first | omega | exact Nat.le_refl _⟩, by repeat (first | exact Drawn0.refl _ | apply Drawn0.step)⟩
               ·rw [if_neg c22] at H
                have c22b0 : (a0_0 == 9) = false := beq_eq_false_iff_ne.mpr c22
                have c22b1 : (a0_0 != 9) = true := bne_iff_ne.mpr c22
                (first | rw [c22b0] | (simp only [i64_w, i32_w]; rw [c22b0]) | (rw [c22b1]; (try simp only [Bool.not_true, Bool.not_false])) | skip)
                have H' := Aside0.mk H
                clear H
                go_wp2
                repeat (go_quiet (fail); try go_wp2)
                go_meet
                case rel => exact ⟨_, ((a0_0 == 14)), (by first | rfl | (simp; done) | (simp [i64_w, i32_w]; done) | (simp [*]; done)), H', ⟨by have := HJ1.out; have := HJ5.out; have := HJ16.out; first | omega | exact Nat.le_refl _⟩, by repeat (first | exact Drawn0.refl _ | apply Drawn0.step)⟩
              case rest =>
               clear HC21
               (try clear c1); (try clear c2); (try clear p2); (try clear c4); (try clear c4b0); (try clear c4b1); (try clear c5); (try clear c7); (try clear c7b0); (try clear c7b1); (try clear c8); (try clear c9); (try clear c9b0); (try clear c9b1); (try clear c12); (try clear c12b0); (try clear c12b1); (try clear c15); (try clear c15b0); (try clear c15b1); (try clear c16); (try clear c16b0); (try clear c16b1); (try clear c17); (try clear c18); (try clear c18b0); (try clear c18b1); (try clear c19); (try clear c19b0); (try clear c19b1); (try clear c20); (try clear c22); (try clear c22b0); (try clear c22b1); (try clear p2)
               obtain ⟨kq, x49_20, rfl, HA, HJ20, ⟨mc20, rfl⟩⟩ := hcut
               cases kq with
               | zero => exact absurd HA.out (by simp [impl_shape.j3])
               | succ kj20 =>
                have H := HA.out
                clear HA
                simp only [impl_shape.j3] at H
                by_cases c23 : x49_20 = true
                ·subst c23
                 have H1 : (some (2, false, false, true)) = some (r1, r2, r3, r4) := by rw [if_pos rfl] at H; exact H
                 clear H
                 have H := H1
                 clear H1
                 simp only [Option.some.injEq, Prod.mk.injEq] at H
                 obtain ⟨rfl, rfl, rfl, rfl⟩ := H
                 go_wp2
                 repeat (go_quiet (fail); try go_wp2)
                 refine bodyPost_ret (results_list (rs := [.tmp 2, .tmp 3, .tmp 4, .tmp 5]) rfl (by simp) (.tmp (.tmp (.tmp (.tmp .nil))))) rfl ?_
                 exact ⟨by first | rfl | (simp; done) | (simp [i64_w, i32_w]; done) | (simp [*]; done), by repeat (first | exact Drawn0.refl _ | apply Drawn0.step)⟩
                ·replace c23 := Bool.eq_false_iff.mpr c23
                 subst c23
                 have H1 : (if a0_0 = 10 then (some (2, true, false, true)) else (if a0_0 = 11 then (some (3, false, false, true)) else (if a0_0 = 13 then (some (1, true, true, true)) else (some (0, false, false, false))))) = some (r1, r2, r3, r4) := by rw [if_neg (show ¬ (false = true) by decide)] at H; exact H
                 clear H
                 have H := H1
                 clear H1
                 by_cases c24 : a0_0 = 10
                 ·rw [if_pos c24] at H
                  have c24b0 : (a0_0 == 10) = true := beq_iff_eq.mpr c24
                  have c24b1 : (a0_0 != 10) = false := bne_eq_false_iff_eq.mpr c24
                  clear c24
                  simp only [Option.some.injEq, Prod.mk.injEq] at H
                  obtain ⟨rfl, rfl, rfl, rfl⟩ := H
                  go_wp2
                  repeat (go_quiet (fail); try go_wp2)
                  refine bodyPost_ret (results_list (rs := [.tmp 2, .tmp 3, .tmp 4, .tmp 5]) rfl (by simp) (.tmp (.tmp (.tmp (.tmp .nil))))) rfl ?_
                  exact ⟨by first | rfl | (simp; done) | (simp [i64_w, i32_w]; done) | (simp [*]; done), by repeat (first | exact Drawn0.refl _ | apply Drawn0.step)⟩
                 ·rw [if_neg c24] at H
                  have c24b0 : (a0_0 == 10) = false := beq_eq_false_iff_ne.mpr c24
                  have c24b1 : (a0_0 != 10) = true := bne_iff_ne.mpr c24
                  by_cases c25 : a0_0 = 11
                  ·rw [if_pos c25] at H
                   have c25b0 : (a0_0 == 11) = true := beq_iff_eq.mpr c25
                   have c25b1 : (a0_0 != 11) = false := bne_eq_false_iff_eq.mpr c25
                   clear c25
                   simp only [Option.some.injEq, Prod.mk.injEq] at H
                   obtain ⟨rfl, rfl, rfl, rfl⟩ := H
                   go_wp2
                   repeat (go_quiet (fail); try go_wp2)
                   refine bodyPost_ret (results_list (rs := [.tmp 2, .tmp 3, .tmp 4, .tmp 5]) rfl (by simp) (.tmp (.tmp (.tmp (.tmp .nil))))) rfl ?_
                   exact ⟨by first | rfl | (simp; done) | (simp [i64_w, i32_w]; done) | (simp [*]; done), by repeat (first | exact Drawn0.refl _ | apply Drawn0.step)⟩
                  ·rw [if_neg c25] at H
                   have c25b0 : (a0_0 == 11) = false := beq_eq_false_iff_ne.mpr c25
                   have c25b1 : (a0_0 != 11) = true := bne_iff_ne.mpr c25
                   by_cases c26 : a0_0 = 13
                   ·rw [if_pos c26] at H
                    have c26b0 : (a0_0 == 13) = true := beq_iff_eq.mpr c26
                    have c26b1 : (a0_0 != 13) = false := bne_eq_false_iff_eq.mpr c26
                    clear c26
                    simp only [Option.some.injEq, Prod.mk.injEq] at H
                    obtain ⟨rfl, rfl, rfl, rfl⟩ := H
                    go_wp2
                    repeat (go_quiet (fail); try go_wp2)
                    refine bodyPost_ret (results_list (rs := [.tmp 2, .tmp 3, .tmp 4, .tmp 5]) rfl (by simp) (.tmp (.tmp (.tmp (.tmp .nil))))) rfl ?_
                    exact ⟨by first | rfl | (simp; done) | (simp [i64_w, i32_w]; done) | (simp [*]; done), by repeat (first | exact Drawn0.refl _ | apply Drawn0.step)⟩
                   ·rw [if_neg c26] at H
                    have c26b0 : (a0_0 == 13) = false := beq_eq_false_iff_ne.mpr c26
                    have c26b1 : (a0_0 != 13) = true := bne_iff_ne.mpr c26
                    simp only [Option.some.injEq, Prod.mk.injEq] at H
                    obtain ⟨rfl, rfl, rfl, rfl⟩ := H
                    go_wp2
                    repeat (go_quiet (fail); try go_wp2)
                    refine bodyPost_ret (results_list (rs := [.tmp 2, .tmp 3, .tmp 4, .tmp 5]) rfl (by simp) (.tmp (.tmp (.tmp (.tmp .nil))))) rfl ?_
                    exact ⟨by first | rfl | (simp; done) | (simp [i64_w, i32_w]; done) | (simp [*]; done), by repeat (first | exact Drawn0.refl _ | apply Drawn0.step)⟩

/-! ### impl_isZeroType: function 176 -/
def impl_isZeroType.f (a0_0 : Int) (l0_1 : List ByteArray) (l0_2 : List (S33)) : Option (Bool) := if a0_0 = 0 then (if (l0_1.length : Int) = 0 then (some ((l0_2.length : Int) == 0)) else (some false)) else (some false)
set_option maxHeartbeats 8000000 in
set_option maxRecDepth 100000 in
theorem impl_isZeroType.calls (a0_0 : Int) (A0_1 : Option Addr) (c0_1 : Nat) (l0_1 : List ByteArray) (A0_2 : Option Addr) (c0_2 : Nat) (l0_2 : List (S33)) (r : Bool) (w : World) (hr0_1 : Kd.C Kd.string w A0_1 l0_1.length l0_1) (hc0_1 : l0_1.length ≤ c0_1) (hr0_2 : Kd.C k33 w A0_2 l0_2.length l0_2) (hc0_2 : l0_2.length ≤ c0_2) (h : impl_isZeroType.f a0_0 l0_1 l0_2 = some r) :
  Calls Try.prog 176 #[.agg #[.int .i64 a0_0, .slice A0_1 l0_1.length c0_1, .slice A0_2 l0_2.length c0_2]] w fun e w' => e = .returned (.bool r) ∧ Below w.heap.size w w' := by
 have hu33 := Try.underlying33
 have HR0_1 := Aside0.mk hr0_1
 have HC0_1 := Aside0.mk hc0_1
 clear hr0_1 hc0_1
 have HR0_2 := Aside0.mk hr0_2
 have HC0_2 := Aside0.mk hc0_2
 clear hr0_2 hc0_2
 have HB := Aside0.mk (Below.refl w.heap.size w)
 have H : (if a0_0 = 0 then (if (l0_1.length : Int) = 0 then (some ((l0_2.length : Int) == 0)) else (some false)) else (some false)) = some r := h
 clear h
 by_cases c2 : a0_0 = 0
 ·rw [if_pos c2] at H
  have c2b0 : (a0_0 == 0) = true := beq_iff_eq.mpr c2
  have c2b1 : (a0_0 != 0) = false := bne_eq_false_iff_eq.mpr c2
  clear c2
  by_cases c3 : (l0_1.length : Int) = 0
  ·rw [if_pos c3] at H
   have c3b0 : ((l0_1.length : Int) == 0) = true := beq_iff_eq.mpr c3
   have c3b1 : ((l0_1.length : Int) != 0) = false := bne_eq_false_iff_eq.mpr c3
   clear c3
   obtain rfl := Option.some.inj H
   go_enter Try.func176, Try.ntmps176
   go_wp2_with (first | ((with_reducible refine gate_dst (N := 1) rfl ?_); (try (refine gate_guard (by rfl) ?_; dsimp only)); refine box_event ?hg (N := 1) ?hd (cs := #[.int .i64 a0_0, .slice A0_1 l0_1.length c0_1, .slice A0_2 l0_2.length c0_2]) (t := 33) ?hr ?_; (case hd => rfl); (case hg => rfl); (case hr => first | (go_simp; done) | (go_simp; rfl)); intro gb428 hg w4 hbox hb; have n0_ := Aside0.mk (below_step (by repeat (first | (with_reducible first | exact HB.out | apply below_alloc | apply pw_below_drewN | apply below_drew1) | exact HB.out)) hb); have n1_ := Aside0.mk (hbox); have n2_ := Aside0.mk ((by rw [hg]; exact (below_size (by repeat (first | (with_reducible first | exact HB.out | apply below_alloc | apply pw_below_drewN | apply below_drew1) | exact HB.out))) : w.heap.size ≤ gb428)); have n3_ := Aside0.mk ((by rw [hg]; exact (below_size (by repeat (first | (with_reducible first | exact HB.out | apply below_alloc | apply pw_below_drewN | apply below_drew1) | exact HB.out))) : w.heap.size ≤ gb428)); clear HB; have HB := n0_; have BK428 := n1_; have GW428 := n2_; have GE428 := n3_; clear n0_ n1_ n2_ n3_; clear hb hbox hg; have hcz5_0 : w4.cell? ⟨gb428, 0, none⟩ = some (.int .i64 a0_0) := (blk_cell BK428.out 0).trans rfl; have hcz5_1 : w4.cell? ⟨gb428, 1, none⟩ = some (.slice A0_1 l0_1.length c0_1) := (blk_cell BK428.out 1).trans rfl; have hcz5_2 : w4.cell? ⟨gb428, 2, none⟩ = some (.slice A0_2 l0_2.length c0_2) := (blk_cell BK428.out 2).trans rfl; have hfz5_0 := blk_frozen BK428.out 0; have hfz5_1 := blk_frozen BK428.out 1; have hfz5_2 := blk_frozen BK428.out 2))
   go_ret
   exact ⟨by first | rfl | (simp [errW_none, errW_some] <;> rfl) | (simp [*, errW_none, errW_some] <;> rfl), by repeat (first | (with_reducible first | exact HB.out | apply below_alloc | apply pw_below_drewN | apply below_drew1 | refine below_set ?_ GE428.out) | exact HB.out)⟩
  ·rw [if_neg c3] at H
   have c3b0 : ((l0_1.length : Int) == 0) = false := beq_eq_false_iff_ne.mpr c3
   have c3b1 : ((l0_1.length : Int) != 0) = true := bne_iff_ne.mpr c3
   have c3b2 : ¬ (l0_1 = []) := fun h_ => c3 (by rw [h_]; rfl)
   obtain rfl := Option.some.inj H
   go_enter Try.func176, Try.ntmps176
   go_wp2_with (first | ((with_reducible refine gate_dst (N := 1) rfl ?_); (try (refine gate_guard (by rfl) ?_; dsimp only)); refine box_event ?hg (N := 1) ?hd (cs := #[.int .i64 a0_0, .slice A0_1 l0_1.length c0_1, .slice A0_2 l0_2.length c0_2]) (t := 33) ?hr ?_; (case hd => rfl); (case hg => rfl); (case hr => first | (go_simp; done) | (go_simp; rfl)); intro gb428 hg w6 hbox hb; have n0_ := Aside0.mk (below_step (by repeat (first | (with_reducible first | exact HB.out | apply below_alloc | apply pw_below_drewN | apply below_drew1) | exact HB.out)) hb); have n1_ := Aside0.mk (hbox); have n2_ := Aside0.mk ((by rw [hg]; exact (below_size (by repeat (first | (with_reducible first | exact HB.out | apply below_alloc | apply pw_below_drewN | apply below_drew1) | exact HB.out))) : w.heap.size ≤ gb428)); have n3_ := Aside0.mk ((by rw [hg]; exact (below_size (by repeat (first | (with_reducible first | exact HB.out | apply below_alloc | apply pw_below_drewN | apply below_drew1) | exact HB.out))) : w.heap.size ≤ gb428)); clear HB; have HB := n0_; have BK428 := n1_; have GW428 := n2_; have GE428 := n3_; clear n0_ n1_ n2_ n3_; clear hb hbox hg; have hcz7_0 : w6.cell? ⟨gb428, 0, none⟩ = some (.int .i64 a0_0) := (blk_cell BK428.out 0).trans rfl; have hcz7_1 : w6.cell? ⟨gb428, 1, none⟩ = some (.slice A0_1 l0_1.length c0_1) := (blk_cell BK428.out 1).trans rfl; have hcz7_2 : w6.cell? ⟨gb428, 2, none⟩ = some (.slice A0_2 l0_2.length c0_2) := (blk_cell BK428.out 2).trans rfl; have hfz7_0 := blk_frozen BK428.out 0; have hfz7_1 := blk_frozen BK428.out 1; have hfz7_2 := blk_frozen BK428.out 2))
   go_ret
   exact ⟨by first | rfl | (simp [errW_none, errW_some] <;> rfl) | (simp [*, errW_none, errW_some] <;> rfl), by repeat (first | (with_reducible first | exact HB.out | apply below_alloc | apply pw_below_drewN | apply below_drew1 | refine below_set ?_ GE428.out) | exact HB.out)⟩
 ·rw [if_neg c2] at H
  have c2b0 : (a0_0 == 0) = false := beq_eq_false_iff_ne.mpr c2
  have c2b1 : (a0_0 != 0) = true := bne_iff_ne.mpr c2
  obtain rfl := Option.some.inj H
  go_enter Try.func176, Try.ntmps176
  go_wp2_with (first | ((with_reducible refine gate_dst (N := 1) rfl ?_); (try (refine gate_guard (by rfl) ?_; dsimp only)); refine box_event ?hg (N := 1) ?hd (cs := #[.int .i64 a0_0, .slice A0_1 l0_1.length c0_1, .slice A0_2 l0_2.length c0_2]) (t := 33) ?hr ?_; (case hd => rfl); (case hg => rfl); (case hr => first | (go_simp; done) | (go_simp; rfl)); intro gb428 hg w8 hbox hb; have n0_ := Aside0.mk (below_step (by repeat (first | (with_reducible first | exact HB.out | apply below_alloc | apply pw_below_drewN | apply below_drew1) | exact HB.out)) hb); have n1_ := Aside0.mk (hbox); have n2_ := Aside0.mk ((by rw [hg]; exact (below_size (by repeat (first | (with_reducible first | exact HB.out | apply below_alloc | apply pw_below_drewN | apply below_drew1) | exact HB.out))) : w.heap.size ≤ gb428)); have n3_ := Aside0.mk ((by rw [hg]; exact (below_size (by repeat (first | (with_reducible first | exact HB.out | apply below_alloc | apply pw_below_drewN | apply below_drew1) | exact HB.out))) : w.heap.size ≤ gb428)); clear HB; have HB := n0_; have BK428 := n1_; have GW428 := n2_; have GE428 := n3_; clear n0_ n1_ n2_ n3_; clear hb hbox hg; have hcz9_0 : w8.cell? ⟨gb428, 0, none⟩ = some (.int .i64 a0_0) := (blk_cell BK428.out 0).trans rfl; have hcz9_1 : w8.cell? ⟨gb428, 1, none⟩ = some (.slice A0_1 l0_1.length c0_1) := (blk_cell BK428.out 1).trans rfl; have hcz9_2 : w8.cell? ⟨gb428, 2, none⟩ = some (.slice A0_2 l0_2.length c0_2) := (blk_cell BK428.out 2).trans rfl; have hfz9_0 := blk_frozen BK428.out 0; have hfz9_1 := blk_frozen BK428.out 1; have hfz9_2 := blk_frozen BK428.out 2))
  go_ret
  exact ⟨by first | rfl | (simp [errW_none, errW_some] <;> rfl) | (simp [*, errW_none, errW_some] <;> rfl), by repeat (first | (with_reducible first | exact HB.out | apply below_alloc | apply pw_below_drewN | apply below_drew1 | refine below_set ?_ GE428.out) | exact HB.out)⟩

end Go.Proofs.Ytppgalehaiagaaa.Px
end
