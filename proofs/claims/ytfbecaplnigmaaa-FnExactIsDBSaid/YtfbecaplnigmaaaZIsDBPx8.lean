/- Printed by a program of this session: what functions of the translation come to, each contract as it stands. No condition. -/
import Derived.Test.YtfbecaplnigmaaaZIsDBSh
import Derived.Test.YtfbecaplnigmaaaZIsDBPx0M
import Derived.Test.YtfbecaplnigmaaaZIsDBPx6M
namespace Go.Proofs.Ytfbecaplnigmaaa.Px
open Go.RowKit Go.Proofs.Ytfbecaplnigmaaa.Ext Go.Proofs.YtfbecaplnigmaaaW.PrintWords Go.Proofs.YtfbecaplnigmaaaW.PrintLast Go.Proofs.YtfbecaplnigmaaaW.PrintMore
attribute [local go_sem] max2_int min2_int max_two min_two max_three min_three max_four min_four   -- for this text's walks alone
set_option linter.unusedVariables false
set_option linter.unusedSimpArgs false

/-! ### spec_l5Has: function 31 -/
mutual
def spec_l5Has.j0 : Nat → Bool → Int → Int → List ByteArray → List (S56) → Int → List ByteArray → List (S51) → Option (Bool)
 | 0, _, _, _, _, _, _, _, _ => none
 | k + 1, x58, x179000, x179001, x179002, x179003, x180000, x180001, x180002 => if x58 = true then (some false) else (if x180000 = 3 then (if x179000 = 3 then (if (x179003.length : Int) = (x180002.length : Int) then (if x180000 = 4 then (spec_l5Has.j1 k (x179000 != 4) x179000 x179001 x179002 x179003 x180000 x180001 x180002) else (spec_l5Has.j1 k false x179000 x179001 x179002 x179003 x180000 x180001 x180002)) else (spec_l5Has.j1 k true x179000 x179001 x179002 x179003 x180000 x180001 x180002)) else (spec_l5Has.j1 k true x179000 x179001 x179002 x179003 x180000 x180001 x180002)) else (if x180000 = 4 then (spec_l5Has.j1 k (x179000 != 4) x179000 x179001 x179002 x179003 x180000 x180001 x180002) else (spec_l5Has.j1 k false x179000 x179001 x179002 x179003 x180000 x180001 x180002)))
def spec_l5Has.j1 : Nat → Bool → Int → Int → List ByteArray → List (S56) → Int → List ByteArray → List (S51) → Option (Bool)
 | 0, _, _, _, _, _, _, _, _ => none
 | k + 1, x85, x179000, x179001, x179002, x179003, x180000, x180001, x180002 => if x85 = true then (some false) else (spec_l5Has.l0 k 0 x179000 x179001 x179002 x179003 x180000 x180001 x180002)
def spec_l5Has.l0 : Nat → Int → Int → Int → List ByteArray → List (S56) → Int → List ByteArray → List (S51) → Option (Bool)
 | 0, _, _, _, _, _, _, _, _ => none
 | k + 1, x5, x179000, x179001, x179002, x179003, x180000, x180001, x180002 => if x5 < (x179003.length : Int) then (if x180000 = 3 then (if 0 ≤ x5 then (if x5 < (x180002.length : Int) then ((spec_l5Has.f k ((rd_T56 x179003 x5).f0) ((rd_T56 x179003 x5).f1) ((rd_T56 x179003 x5).f2) ((rd_T56 x179003 x5).f3) ((rd_T51 x180002 x5).f0) ((rd_T51 x180002 x5).f1) ((rd_T51 x180002 x5).f2)).bind fun t184 => (if t184 = true then (spec_l5Has.l0 k (wrap64 (x5 + 1)) x179000 x179001 x179002 x179003 x180000 x180001 x180002) else (some false))) else (none)) else (none)) else (if 0 ≤ x5 then (if 0 < (x180002.length : Int) then ((spec_l5Has.f k ((rd_T56 x179003 x5).f0) ((rd_T56 x179003 x5).f1) ((rd_T56 x179003 x5).f2) ((rd_T56 x179003 x5).f3) ((rd_T51 x180002 0).f0) ((rd_T51 x180002 0).f1) ((rd_T51 x180002 0).f2)).bind fun t187 => (if t187 = true then (spec_l5Has.l0 k (wrap64 (x5 + 1)) x179000 x179001 x179002 x179003 x180000 x180001 x180002) else (some false))) else (none)) else (none))) else (some true)
def spec_l5Has.f : Nat → Int → Int → List ByteArray → List (S56) → Int → List ByteArray → List (S51) → Option (Bool)
 | 0, _, _, _, _, _, _, _ => none
 | k + 1, a0_0, a0_1, l0_2, l0_3, a1_0, l1_1, l1_2 => if a1_0 = 1 then (if a0_0 = 1 then (if (l0_2.length : Int) = 0 then (some ((l0_3.length : Int) == 0)) else (some false)) else (some false)) else (if a1_0 = 2 then (if a0_0 = 2 then ((spec_l1In.f a0_1 0 1).bind fun t180 => (if t180 = true then (if (l0_2.length : Int) = 0 then (some ((l0_3.length : Int) == 0)) else (some false)) else (some false))) else (some false)) else (if a0_1 = 0 then ((spec_l3Texts.f k l0_2 l1_1).bind fun t181 => (spec_l5Has.j0 k (!t181) a0_0 a0_1 l0_2 l0_3 a1_0 l1_1 l1_2)) else (spec_l5Has.j0 k true a0_0 a0_1 l0_2 l0_3 a1_0 l1_1 l1_2)))
end
def spec_l5Has.T16 : Bool × List (List Nat × List Nat) := (true, [([], []), ([0], [0]), ([], []), ([1, 2], [1, 2]), ([3], [3]), ([], []), ([5], [5]), ([], []), ([6, 7], [6, 7]), ([8], [8]), ([4, 9], [4, 9]), ([10], [10])])
def spec_l5Has.B16 : List Nat := [0, 1, 0, 7, 15, 0, 32, 0, 224, 480, 1023, 2047]
theorem spec_l5Has.tab16 : rtab .any (opsOf Try.f31 16) = spec_l5Has.T16 := by kernel_rfl
theorem spec_l5Has.bits16 : waitsOk spec_l5Has.T16.2 spec_l5Has.B16 = true := by kernel_rfl
set_option maxHeartbeats 8000000 in
set_option maxRecDepth 100000 in
theorem spec_l5Has.calls (k : Nat) : ∀ (a0_0 : Int) (a0_1 : Int) (A0_2 : Option Addr) (c0_2 : Nat) (l0_2 : List ByteArray) (A0_3 : Option Addr) (c0_3 : Nat) (l0_3 : List (S56)) (a1_0 : Int) (A1_1 : Option Addr) (c1_1 : Nat) (l1_1 : List ByteArray) (A1_2 : Option Addr) (c1_2 : Nat) (l1_2 : List (S51)) (r : Bool) (w : World) (hr0_2 : Kd.C Kd.string w A0_2 l0_2.length l0_2) (hc0_2 : l0_2.length ≤ c0_2) (hr0_3 : Kd.C k56 w A0_3 l0_3.length l0_3) (hc0_3 : l0_3.length ≤ c0_3) (hr1_1 : Kd.C Kd.string w A1_1 l1_1.length l1_1) (hc1_1 : l1_1.length ≤ c1_1) (hr1_2 : Kd.C k51 w A1_2 l1_2.length l1_2) (hc1_2 : l1_2.length ≤ c1_2) (h : spec_l5Has.f k a0_0 a0_1 l0_2 l0_3 a1_0 l1_1 l1_2 = some r),
  Calls Try.prog 31 #[.agg #[.int .i64 a0_0, .int .i64 a0_1, .slice A0_2 l0_2.length c0_2, .slice A0_3 l0_3.length c0_3], .agg #[.int .i64 a1_0, .slice A1_1 l1_1.length c1_1, .slice A1_2 l1_2.length c1_2]] w fun e w' => e = .returned (.bool r) ∧ Below w.heap.size w w' := by
 induction k using Nat.strongRecOn with
 | _ k ih =>
 intro a0_0 a0_1 A0_2 c0_2 l0_2 A0_3 c0_3 l0_3 a1_0 A1_1 c1_1 l1_1 A1_2 c1_2 l1_2 r w hr0_2 hc0_2 hr0_3 hc0_3 hr1_1 hc1_1 hr1_2 hc1_2 h
 cases k with
 | zero => exact absurd h (by simp [spec_l5Has.f])
 | succ k =>
 simp only [spec_l5Has.f] at h
 have hu56 := Try.underlying56
 have hu51 := Try.underlying51
 have HR0_2 := Aside0.mk hr0_2
 have HC0_2 := Aside0.mk hc0_2
 clear hr0_2 hc0_2
 have HR0_3 := Aside0.mk hr0_3
 have HC0_3 := Aside0.mk hc0_3
 clear hr0_3 hc0_3
 have HR1_1 := Aside0.mk hr1_1
 have HC1_1 := Aside0.mk hc1_1
 clear hr1_1 hc1_1
 have HR1_2 := Aside0.mk hr1_2
 have HC1_2 := Aside0.mk hc1_2
 clear hr1_2 hc1_2
 have HB := Aside0.mk (Below.refl w.heap.size w)
 have H : (if a1_0 = 1 then (if a0_0 = 1 then (if (l0_2.length : Int) = 0 then (some ((l0_3.length : Int) == 0)) else (some false)) else (some false)) else (if a1_0 = 2 then (if a0_0 = 2 then ((spec_l1In.f a0_1 0 1).bind fun t180 => (if t180 = true then (if (l0_2.length : Int) = 0 then (some ((l0_3.length : Int) == 0)) else (some false)) else (some false))) else (some false)) else (if a0_1 = 0 then ((spec_l3Texts.f k l0_2 l1_1).bind fun t181 => (spec_l5Has.j0 k (!t181) a0_0 a0_1 l0_2 l0_3 a1_0 l1_1 l1_2)) else (spec_l5Has.j0 k true a0_0 a0_1 l0_2 l0_3 a1_0 l1_1 l1_2)))) = some r := h
 clear h
 by_cases c3 : a1_0 = 1
 ·rw [if_pos c3] at H
  have c3b0 : (a1_0 == 1) = true := beq_iff_eq.mpr c3
  have c3b1 : (a1_0 != 1) = false := bne_eq_false_iff_eq.mpr c3
  clear c3
  by_cases c4 : a0_0 = 1
  case neg =>
   rw [if_neg c4] at H
   have c4b0 : (a0_0 == 1) = false := beq_eq_false_iff_ne.mpr c4
   have c4b1 : (a0_0 != 1) = true := bne_iff_ne.mpr c4
   obtain rfl := Option.some.inj H
   go_enter Try.func31, Try.ntmps31
   go_wp2_with (first | ((with_reducible refine gate_dst (N := 2) rfl ?_); (try (refine gate_guard (by rfl) ?_; dsimp only)); refine box_event ?hg (N := 2) ?hd (cs := #[.int .i64 a0_0, .int .i64 a0_1, .slice A0_2 l0_2.length c0_2, .slice A0_3 l0_3.length c0_3]) (t := 56) ?hr ?_; (case hd => rfl); (case hg => rfl); (case hr => exact hrw); intro gb178 hg w16 hbox hb; have n0_ := Aside0.mk (below_step blw hb); have n1_ := Aside0.mk (hbox); have n2_ := Aside0.mk ((by rw [hg]; exact (below_size blw) : w.heap.size ≤ gb178)); have n3_ := n2_; clear HB; revert n0_ n1_ n2_ n3_; intro HB BK178 GW178 GE178; clear hb hbox hg) | ((with_reducible refine gate_dst (N := 3) rfl ?_); (try (refine gate_guard (by rfl) ?_; dsimp only)); refine box_event ?hg (N := 3) ?hd (cs := #[.int .i64 a1_0, .slice A1_1 l1_1.length c1_1, .slice A1_2 l1_2.length c1_2]) (t := 51) ?hr ?_; (case hd => rfl); (case hg => rfl); (case hr => exact hrw); intro gb179 hg w17 hbox hb; have n0_ := Aside0.mk (blk_below (g := gb178) (o := .cells #[.int .i64 a0_0, .int .i64 a0_1, .slice A0_2 l0_2.length c0_2, .slice A0_3 l0_3.length c0_3] 56 (0, 0)) bkw hb); have n1_ := Aside0.mk (below_step blw hb); have n2_ := Aside0.mk (hbox); have n3_ := Aside0.mk ((by rw [hg]; exact (below_size blw) : w.heap.size ≤ gb179)); have n4_ := n3_; have n5_ := Aside0.mk ((by rw [hg]; exact Nat.ne_of_lt (blk_lt (g := gb178) (o := .cells #[.int .i64 a0_0, .int .i64 a0_1, .slice A0_2 l0_2.length c0_2, .slice A0_3 l0_3.length c0_3] 56 (0, 0)) bkw) : gb178 ≠ gb179)); have n6_ := Aside0.mk ((by rw [hg]; exact Nat.ne_of_gt (blk_lt (g := gb178) (o := .cells #[.int .i64 a0_0, .int .i64 a0_1, .slice A0_2 l0_2.length c0_2, .slice A0_3 l0_3.length c0_3] 56 (0, 0)) bkw) : gb179 ≠ gb178)); clear BK178; clear HB; revert n0_ n1_ n2_ n3_ n4_ n5_ n6_; intro BK178 HB BK179 GW179 GE179 NB178_179 NB179_178; clear hb hbox hg; have hnb18 := NB179_178.out; have hnc18 := NB178_179.out; obtain ⟨hcz19_0, hcz19_1, hcz19_2⟩ := cls3 BK179.out; obtain ⟨hfz19_0, hfz19_1, hfz19_2⟩ := frz3 BK179.out; obtain ⟨hcz20_0, hcz20_1, hcz20_2, hcz20_3⟩ := cls4 BK178.out; obtain ⟨hfz20_0, hfz20_1, hfz20_2, hfz20_3⟩ := frz4 BK178.out))
   go_ret
   exact ⟨rfw, blw⟩
  rw [if_pos c4] at H
  have c4b0 : (a0_0 == 1) = true := beq_iff_eq.mpr c4
  have c4b1 : (a0_0 != 1) = false := bne_eq_false_iff_eq.mpr c4
  clear c4
  by_cases c5 : (l0_2.length : Int) = 0
  ·rw [if_pos c5] at H
   have c5b0 : ((l0_2.length : Int) == 0) = true := beq_iff_eq.mpr c5
   have c5b1 : ((l0_2.length : Int) != 0) = false := bne_eq_false_iff_eq.mpr c5
   clear c5
   obtain rfl := Option.some.inj H
   go_enter Try.func31, Try.ntmps31
   go_wp2_with (first | ((with_reducible refine gate_dst (N := 2) rfl ?_); (try (refine gate_guard (by rfl) ?_; dsimp only)); refine box_event ?hg (N := 2) ?hd (cs := #[.int .i64 a0_0, .int .i64 a0_1, .slice A0_2 l0_2.length c0_2, .slice A0_3 l0_3.length c0_3]) (t := 56) ?hr ?_; (case hd => rfl); (case hg => rfl); (case hr => exact hrw); intro gb178 hg w6 hbox hb; have n0_ := Aside0.mk (below_step blw hb); have n1_ := Aside0.mk (hbox); have n2_ := Aside0.mk ((by rw [hg]; exact (below_size blw) : w.heap.size ≤ gb178)); have n3_ := n2_; clear HB; revert n0_ n1_ n2_ n3_; intro HB BK178 GW178 GE178; clear hb hbox hg) | ((with_reducible refine gate_dst (N := 3) rfl ?_); (try (refine gate_guard (by rfl) ?_; dsimp only)); refine box_event ?hg (N := 3) ?hd (cs := #[.int .i64 a1_0, .slice A1_1 l1_1.length c1_1, .slice A1_2 l1_2.length c1_2]) (t := 51) ?hr ?_; (case hd => rfl); (case hg => rfl); (case hr => exact hrw); intro gb179 hg w7 hbox hb; have n0_ := Aside0.mk (blk_below (g := gb178) (o := .cells #[.int .i64 a0_0, .int .i64 a0_1, .slice A0_2 l0_2.length c0_2, .slice A0_3 l0_3.length c0_3] 56 (0, 0)) bkw hb); have n1_ := Aside0.mk (below_step blw hb); have n2_ := Aside0.mk (hbox); have n3_ := Aside0.mk ((by rw [hg]; exact (below_size blw) : w.heap.size ≤ gb179)); have n4_ := n3_; have n5_ := Aside0.mk ((by rw [hg]; exact Nat.ne_of_lt (blk_lt (g := gb178) (o := .cells #[.int .i64 a0_0, .int .i64 a0_1, .slice A0_2 l0_2.length c0_2, .slice A0_3 l0_3.length c0_3] 56 (0, 0)) bkw) : gb178 ≠ gb179)); have n6_ := Aside0.mk ((by rw [hg]; exact Nat.ne_of_gt (blk_lt (g := gb178) (o := .cells #[.int .i64 a0_0, .int .i64 a0_1, .slice A0_2 l0_2.length c0_2, .slice A0_3 l0_3.length c0_3] 56 (0, 0)) bkw) : gb179 ≠ gb178)); clear BK178; clear HB; revert n0_ n1_ n2_ n3_ n4_ n5_ n6_; intro BK178 HB BK179 GW179 GE179 NB178_179 NB179_178; clear hb hbox hg; have hnb8 := NB179_178.out; have hnc8 := NB178_179.out; obtain ⟨hcz9_0, hcz9_1, hcz9_2⟩ := cls3 BK179.out; obtain ⟨hfz9_0, hfz9_1, hfz9_2⟩ := frz3 BK179.out; obtain ⟨hcz10_0, hcz10_1, hcz10_2, hcz10_3⟩ := cls4 BK178.out; obtain ⟨hfz10_0, hfz10_1, hfz10_2, hfz10_3⟩ := frz4 BK178.out))
   go_ret
   exact ⟨rfw, blw⟩
  rw [if_neg c5] at H
  have c5b0 : ((l0_2.length : Int) == 0) = false := beq_eq_false_iff_ne.mpr c5
  have c5b1 : ((l0_2.length : Int) != 0) = true := bne_iff_ne.mpr c5
  have c5b2 : ¬ (l0_2 = []) := fun h_ => c5 (by rw [h_]; rfl)
  obtain rfl := Option.some.inj H
  go_enter Try.func31, Try.ntmps31
  go_wp2_with (first | ((with_reducible refine gate_dst (N := 2) rfl ?_); (try (refine gate_guard (by rfl) ?_; dsimp only)); refine box_event ?hg (N := 2) ?hd (cs := #[.int .i64 a0_0, .int .i64 a0_1, .slice A0_2 l0_2.length c0_2, .slice A0_3 l0_3.length c0_3]) (t := 56) ?hr ?_; (case hd => rfl); (case hg => rfl); (case hr => exact hrw); intro gb178 hg w11 hbox hb; have n0_ := Aside0.mk (below_step blw hb); have n1_ := Aside0.mk (hbox); have n2_ := Aside0.mk ((by rw [hg]; exact (below_size blw) : w.heap.size ≤ gb178)); have n3_ := n2_; clear HB; revert n0_ n1_ n2_ n3_; intro HB BK178 GW178 GE178; clear hb hbox hg) | ((with_reducible refine gate_dst (N := 3) rfl ?_); (try (refine gate_guard (by rfl) ?_; dsimp only)); refine box_event ?hg (N := 3) ?hd (cs := #[.int .i64 a1_0, .slice A1_1 l1_1.length c1_1, .slice A1_2 l1_2.length c1_2]) (t := 51) ?hr ?_; (case hd => rfl); (case hg => rfl); (case hr => exact hrw); intro gb179 hg w12 hbox hb; have n0_ := Aside0.mk (blk_below (g := gb178) (o := .cells #[.int .i64 a0_0, .int .i64 a0_1, .slice A0_2 l0_2.length c0_2, .slice A0_3 l0_3.length c0_3] 56 (0, 0)) bkw hb); have n1_ := Aside0.mk (below_step blw hb); have n2_ := Aside0.mk (hbox); have n3_ := Aside0.mk ((by rw [hg]; exact (below_size blw) : w.heap.size ≤ gb179)); have n4_ := n3_; have n5_ := Aside0.mk ((by rw [hg]; exact Nat.ne_of_lt (blk_lt (g := gb178) (o := .cells #[.int .i64 a0_0, .int .i64 a0_1, .slice A0_2 l0_2.length c0_2, .slice A0_3 l0_3.length c0_3] 56 (0, 0)) bkw) : gb178 ≠ gb179)); have n6_ := Aside0.mk ((by rw [hg]; exact Nat.ne_of_gt (blk_lt (g := gb178) (o := .cells #[.int .i64 a0_0, .int .i64 a0_1, .slice A0_2 l0_2.length c0_2, .slice A0_3 l0_3.length c0_3] 56 (0, 0)) bkw) : gb179 ≠ gb178)); clear BK178; clear HB; revert n0_ n1_ n2_ n3_ n4_ n5_ n6_; intro BK178 HB BK179 GW179 GE179 NB178_179 NB179_178; clear hb hbox hg; have hnb13 := NB179_178.out; have hnc13 := NB178_179.out; obtain ⟨hcz14_0, hcz14_1, hcz14_2⟩ := cls3 BK179.out; obtain ⟨hfz14_0, hfz14_1, hfz14_2⟩ := frz3 BK179.out; obtain ⟨hcz15_0, hcz15_1, hcz15_2, hcz15_3⟩ := cls4 BK178.out; obtain ⟨hfz15_0, hfz15_1, hfz15_2, hfz15_3⟩ := frz4 BK178.out))
  go_ret
  exact ⟨rfw, blw⟩
 rw [if_neg c3] at H
 have c3b0 : (a1_0 == 1) = false := beq_eq_false_iff_ne.mpr c3
 have c3b1 : (a1_0 != 1) = true := bne_iff_ne.mpr c3
 by_cases c21 : a1_0 = 2
 ·rw [if_pos c21] at H
  have c21b0 : (a1_0 == 2) = true := beq_iff_eq.mpr c21
  have c21b1 : (a1_0 != 2) = false := bne_eq_false_iff_eq.mpr c21
  clear c21
  by_cases c22 : a0_0 = 2
  case neg =>
   rw [if_neg c22] at H
   have c22b0 : (a0_0 == 2) = false := beq_eq_false_iff_ne.mpr c22
   have c22b1 : (a0_0 != 2) = true := bne_iff_ne.mpr c22
   obtain rfl := Option.some.inj H
   go_enter Try.func31, Try.ntmps31
   go_wp2_with (first | ((with_reducible refine gate_dst (N := 2) rfl ?_); (try (refine gate_guard (by rfl) ?_; dsimp only)); refine box_event ?hg (N := 2) ?hd (cs := #[.int .i64 a0_0, .int .i64 a0_1, .slice A0_2 l0_2.length c0_2, .slice A0_3 l0_3.length c0_3]) (t := 56) ?hr ?_; (case hd => rfl); (case hg => rfl); (case hr => exact hrw); intro gb178 hg w41 hbox hb; have n0_ := Aside0.mk (below_step blw hb); have n1_ := Aside0.mk (hbox); have n2_ := Aside0.mk ((by rw [hg]; exact (below_size blw) : w.heap.size ≤ gb178)); have n3_ := n2_; clear HB; revert n0_ n1_ n2_ n3_; intro HB BK178 GW178 GE178; clear hb hbox hg) | ((with_reducible refine gate_dst (N := 3) rfl ?_); (try (refine gate_guard (by rfl) ?_; dsimp only)); refine box_event ?hg (N := 3) ?hd (cs := #[.int .i64 a1_0, .slice A1_1 l1_1.length c1_1, .slice A1_2 l1_2.length c1_2]) (t := 51) ?hr ?_; (case hd => rfl); (case hg => rfl); (case hr => exact hrw); intro gb179 hg w42 hbox hb; have n0_ := Aside0.mk (blk_below (g := gb178) (o := .cells #[.int .i64 a0_0, .int .i64 a0_1, .slice A0_2 l0_2.length c0_2, .slice A0_3 l0_3.length c0_3] 56 (0, 0)) bkw hb); have n1_ := Aside0.mk (below_step blw hb); have n2_ := Aside0.mk (hbox); have n3_ := Aside0.mk ((by rw [hg]; exact (below_size blw) : w.heap.size ≤ gb179)); have n4_ := n3_; have n5_ := Aside0.mk ((by rw [hg]; exact Nat.ne_of_lt (blk_lt (g := gb178) (o := .cells #[.int .i64 a0_0, .int .i64 a0_1, .slice A0_2 l0_2.length c0_2, .slice A0_3 l0_3.length c0_3] 56 (0, 0)) bkw) : gb178 ≠ gb179)); have n6_ := Aside0.mk ((by rw [hg]; exact Nat.ne_of_gt (blk_lt (g := gb178) (o := .cells #[.int .i64 a0_0, .int .i64 a0_1, .slice A0_2 l0_2.length c0_2, .slice A0_3 l0_3.length c0_3] 56 (0, 0)) bkw) : gb179 ≠ gb178)); clear BK178; clear HB; revert n0_ n1_ n2_ n3_ n4_ n5_ n6_; intro BK178 HB BK179 GW179 GE179 NB178_179 NB179_178; clear hb hbox hg; have hnb43 := NB179_178.out; have hnc43 := NB178_179.out; obtain ⟨hcz44_0, hcz44_1, hcz44_2⟩ := cls3 BK179.out; obtain ⟨hfz44_0, hfz44_1, hfz44_2⟩ := frz3 BK179.out; obtain ⟨hcz45_0, hcz45_1, hcz45_2, hcz45_3⟩ := cls4 BK178.out; obtain ⟨hfz45_0, hfz45_1, hfz45_2, hfz45_3⟩ := frz4 BK178.out))
   go_ret
   exact ⟨rfw, blw⟩
  rw [if_pos c22] at H
  have c22b0 : (a0_0 == 2) = true := beq_iff_eq.mpr c22
  have c22b1 : (a0_0 != 2) = false := bne_eq_false_iff_eq.mpr c22
  clear c22
  replace H := Option.bind_eq_some_iff.mp H
  obtain ⟨t180, A230, H⟩ := H
  replace H : (if t180 = true then (if (l0_2.length : Int) = 0 then (some ((l0_3.length : Int) == 0)) else (some false)) else (some false)) = some r := H
  have A23 := Aside0.mk A230
  clear A230
  by_cases c24 : t180 = true
  case neg =>
   replace c24 := Bool.eq_false_iff.mpr c24
   subst c24
   have H1 : (some false) = some r := by rw [if_neg (show ¬ (false = true) by decide)] at H; exact H
   clear H
   have H := H1
   clear H1
   obtain rfl := Option.some.inj H
   go_enter Try.func31, Try.ntmps31
   go_wp2_with (first | ((with_reducible refine gate_dst (N := 2) rfl ?_); (try (refine gate_guard (by rfl) ?_; dsimp only)); refine box_event ?hg (N := 2) ?hd (cs := #[.int .i64 a0_0, .int .i64 a0_1, .slice A0_2 l0_2.length c0_2, .slice A0_3 l0_3.length c0_3]) (t := 56) ?hr ?_; (case hd => rfl); (case hg => rfl); (case hr => exact hrw); intro gb178 hg w36 hbox hb; have n0_ := Aside0.mk (below_step blw hb); have n1_ := Aside0.mk (hbox); have n2_ := Aside0.mk ((by rw [hg]; exact (below_size blw) : w.heap.size ≤ gb178)); have n3_ := n2_; clear HB; revert n0_ n1_ n2_ n3_; intro HB BK178 GW178 GE178; clear hb hbox hg) | ((with_reducible refine gate_dst (N := 3) rfl ?_); (try (refine gate_guard (by rfl) ?_; dsimp only)); refine box_event ?hg (N := 3) ?hd (cs := #[.int .i64 a1_0, .slice A1_1 l1_1.length c1_1, .slice A1_2 l1_2.length c1_2]) (t := 51) ?hr ?_; (case hd => rfl); (case hg => rfl); (case hr => exact hrw); intro gb179 hg w37 hbox hb; have n0_ := Aside0.mk (blk_below (g := gb178) (o := .cells #[.int .i64 a0_0, .int .i64 a0_1, .slice A0_2 l0_2.length c0_2, .slice A0_3 l0_3.length c0_3] 56 (0, 0)) bkw hb); have n1_ := Aside0.mk (below_step blw hb); have n2_ := Aside0.mk (hbox); have n3_ := Aside0.mk ((by rw [hg]; exact (below_size blw) : w.heap.size ≤ gb179)); have n4_ := n3_; have n5_ := Aside0.mk ((by rw [hg]; exact Nat.ne_of_lt (blk_lt (g := gb178) (o := .cells #[.int .i64 a0_0, .int .i64 a0_1, .slice A0_2 l0_2.length c0_2, .slice A0_3 l0_3.length c0_3] 56 (0, 0)) bkw) : gb178 ≠ gb179)); have n6_ := Aside0.mk ((by rw [hg]; exact Nat.ne_of_gt (blk_lt (g := gb178) (o := .cells #[.int .i64 a0_0, .int .i64 a0_1, .slice A0_2 l0_2.length c0_2, .slice A0_3 l0_3.length c0_3] 56 (0, 0)) bkw) : gb179 ≠ gb178)); clear BK178; clear HB; revert n0_ n1_ n2_ n3_ n4_ n5_ n6_; intro BK178 HB BK179 GW179 GE179 NB178_179 NB179_178; clear hb hbox hg; have hnb38 := NB179_178.out; have hnc38 := NB178_179.out; obtain ⟨hcz39_0, hcz39_1, hcz39_2⟩ := cls3 BK179.out; obtain ⟨hfz39_0, hfz39_1, hfz39_2⟩ := frz3 BK179.out; obtain ⟨hcz40_0, hcz40_1, hcz40_2, hcz40_3⟩ := cls4 BK178.out; obtain ⟨hfz40_0, hfz40_1, hfz40_2, hfz40_3⟩ := frz4 BK178.out) | (go_at_call 44; (with_reducible refine (spec_l1In.calls a0_1 0 1 false _ A23.out).mono ?_); rintro e w' ⟨rfl, ⟨nd, rfl⟩⟩))
   go_ret
   exact ⟨rfw, blw⟩
  subst c24
  have H1 : (if (l0_2.length : Int) = 0 then (some ((l0_3.length : Int) == 0)) else (some false)) = some r := by rw [if_pos rfl] at H; exact H
  clear H
  have H := H1
  clear H1
  by_cases c25 : (l0_2.length : Int) = 0
  ·rw [if_pos c25] at H
   have c25b0 : ((l0_2.length : Int) == 0) = true := beq_iff_eq.mpr c25
   have c25b1 : ((l0_2.length : Int) != 0) = false := bne_eq_false_iff_eq.mpr c25
   clear c25
   obtain rfl := Option.some.inj H
   go_enter Try.func31, Try.ntmps31
   go_wp2_with (first | ((with_reducible refine gate_dst (N := 2) rfl ?_); (try (refine gate_guard (by rfl) ?_; dsimp only)); refine box_event ?hg (N := 2) ?hd (cs := #[.int .i64 a0_0, .int .i64 a0_1, .slice A0_2 l0_2.length c0_2, .slice A0_3 l0_3.length c0_3]) (t := 56) ?hr ?_; (case hd => rfl); (case hg => rfl); (case hr => exact hrw); intro gb178 hg w26 hbox hb; have n0_ := Aside0.mk (below_step blw hb); have n1_ := Aside0.mk (hbox); have n2_ := Aside0.mk ((by rw [hg]; exact (below_size blw) : w.heap.size ≤ gb178)); have n3_ := n2_; clear HB; revert n0_ n1_ n2_ n3_; intro HB BK178 GW178 GE178; clear hb hbox hg) | ((with_reducible refine gate_dst (N := 3) rfl ?_); (try (refine gate_guard (by rfl) ?_; dsimp only)); refine box_event ?hg (N := 3) ?hd (cs := #[.int .i64 a1_0, .slice A1_1 l1_1.length c1_1, .slice A1_2 l1_2.length c1_2]) (t := 51) ?hr ?_; (case hd => rfl); (case hg => rfl); (case hr => exact hrw); intro gb179 hg w27 hbox hb; have n0_ := Aside0.mk (blk_below (g := gb178) (o := .cells #[.int .i64 a0_0, .int .i64 a0_1, .slice A0_2 l0_2.length c0_2, .slice A0_3 l0_3.length c0_3] 56 (0, 0)) bkw hb); have n1_ := Aside0.mk (below_step blw hb); have n2_ := Aside0.mk (hbox); have n3_ := Aside0.mk ((by rw [hg]; exact (below_size blw) : w.heap.size ≤ gb179)); have n4_ := n3_; have n5_ := Aside0.mk ((by rw [hg]; exact Nat.ne_of_lt (blk_lt (g := gb178) (o := .cells #[.int .i64 a0_0, .int .i64 a0_1, .slice A0_2 l0_2.length c0_2, .slice A0_3 l0_3.length c0_3] 56 (0, 0)) bkw) : gb178 ≠ gb179)); have n6_ := Aside0.mk ((by rw [hg]; exact Nat.ne_of_gt (blk_lt (g := gb178) (o := .cells #[.int .i64 a0_0, .int .i64 a0_1, .slice A0_2 l0_2.length c0_2, .slice A0_3 l0_3.length c0_3] 56 (0, 0)) bkw) : gb179 ≠ gb178)); clear BK178; clear HB; revert n0_ n1_ n2_ n3_ n4_ n5_ n6_; intro BK178 HB BK179 GW179 GE179 NB178_179 NB179_178; clear hb hbox hg; have hnb28 := NB179_178.out; have hnc28 := NB178_179.out; obtain ⟨hcz29_0, hcz29_1, hcz29_2⟩ := cls3 BK179.out; obtain ⟨hfz29_0, hfz29_1, hfz29_2⟩ := frz3 BK179.out; obtain ⟨hcz30_0, hcz30_1, hcz30_2, hcz30_3⟩ := cls4 BK178.out; obtain ⟨hfz30_0, hfz30_1, hfz30_2, hfz30_3⟩ := frz4 BK178.out) | (go_at_call 44; (with_reducible refine (spec_l1In.calls a0_1 0 1 true _ A23.out).mono ?_); rintro e w' ⟨rfl, ⟨nd, rfl⟩⟩))
   go_ret
   exact ⟨rfw, blw⟩
  rw [if_neg c25] at H
  have c25b0 : ((l0_2.length : Int) == 0) = false := beq_eq_false_iff_ne.mpr c25
  have c25b1 : ((l0_2.length : Int) != 0) = true := bne_iff_ne.mpr c25
  have c25b2 : ¬ (l0_2 = []) := fun h_ => c25 (by rw [h_]; rfl)
  obtain rfl := Option.some.inj H
  go_enter Try.func31, Try.ntmps31
  go_wp2_with (first | ((with_reducible refine gate_dst (N := 2) rfl ?_); (try (refine gate_guard (by rfl) ?_; dsimp only)); refine box_event ?hg (N := 2) ?hd (cs := #[.int .i64 a0_0, .int .i64 a0_1, .slice A0_2 l0_2.length c0_2, .slice A0_3 l0_3.length c0_3]) (t := 56) ?hr ?_; (case hd => rfl); (case hg => rfl); (case hr => exact hrw); intro gb178 hg w31 hbox hb; have n0_ := Aside0.mk (below_step blw hb); have n1_ := Aside0.mk (hbox); have n2_ := Aside0.mk ((by rw [hg]; exact (below_size blw) : w.heap.size ≤ gb178)); have n3_ := n2_; clear HB; revert n0_ n1_ n2_ n3_; intro HB BK178 GW178 GE178; clear hb hbox hg) | ((with_reducible refine gate_dst (N := 3) rfl ?_); (try (refine gate_guard (by rfl) ?_; dsimp only)); refine box_event ?hg (N := 3) ?hd (cs := #[.int .i64 a1_0, .slice A1_1 l1_1.length c1_1, .slice A1_2 l1_2.length c1_2]) (t := 51) ?hr ?_; (case hd => rfl); (case hg => rfl); (case hr => exact hrw); intro gb179 hg w32 hbox hb; have n0_ := Aside0.mk (blk_below (g := gb178) (o := .cells #[.int .i64 a0_0, .int .i64 a0_1, .slice A0_2 l0_2.length c0_2, .slice A0_3 l0_3.length c0_3] 56 (0, 0)) bkw hb); have n1_ := Aside0.mk (below_step blw hb); have n2_ := Aside0.mk (hbox); have n3_ := Aside0.mk ((by rw [hg]; exact (below_size blw) : w.heap.size ≤ gb179)); have n4_ := n3_; have n5_ := Aside0.mk ((by rw [hg]; exact Nat.ne_of_lt (blk_lt (g := gb178) (o := .cells #[.int .i64 a0_0, .int .i64 a0_1, .slice A0_2 l0_2.length c0_2, .slice A0_3 l0_3.length c0_3] 56 (0, 0)) bkw) : gb178 ≠ gb179)); have n6_ := Aside0.mk ((by rw [hg]; exact Nat.ne_of_gt (blk_lt (g := gb178) (o := .cells #[.int .i64 a0_0, .int .i64 a0_1, .slice A0_2 l0_2.length c0_2, .slice A0_3 l0_3.length c0_3] 56 (0, 0)) bkw) : gb179 ≠ gb178)); clear BK178; clear HB; revert n0_ n1_ n2_ n3_ n4_ n5_ n6_; intro BK178 HB BK179 GW179 GE179 NB178_179 NB179_178; clear hb hbox hg; have hnb33 := NB179_178.out; have hnc33 := NB178_179.out; obtain ⟨hcz34_0, hcz34_1, hcz34_2⟩ := cls3 BK179.out; obtain ⟨hfz34_0, hfz34_1, hfz34_2⟩ := frz3 BK179.out; obtain ⟨hcz35_0, hcz35_1, hcz35_2, hcz35_3⟩ := cls4 BK178.out; obtain ⟨hfz35_0, hfz35_1, hfz35_2, hfz35_3⟩ := frz4 BK178.out) | (go_at_call 44; (with_reducible refine (spec_l1In.calls a0_1 0 1 true _ A23.out).mono ?_); rintro e w' ⟨rfl, ⟨nd, rfl⟩⟩))
  go_ret
  exact ⟨rfw, blw⟩
 rw [if_neg c21] at H
 have c21b0 : (a1_0 == 2) = false := beq_eq_false_iff_ne.mpr c21
 have c21b1 : (a1_0 != 2) = true := bne_iff_ne.mpr c21
 have HC46 := Aside0.mk H
 clear H
 go_enter Try.func31, Try.ntmps31
 go_upto_region 6 with (first | ((with_reducible refine gate_dst (N := 2) rfl ?_); (try (refine gate_guard (by rfl) ?_; dsimp only)); refine box_event ?hg (N := 2) ?hd (cs := #[.int .i64 a0_0, .int .i64 a0_1, .slice A0_2 l0_2.length c0_2, .slice A0_3 l0_3.length c0_3]) (t := 56) ?hr ?_; (case hd => rfl); (case hg => rfl); (case hr => exact hrw); intro gb178 hg w47 hbox hb; have n0_ := Aside0.mk (below_step blw hb); have n1_ := Aside0.mk (hbox); have n2_ := Aside0.mk ((by rw [hg]; exact (below_size blw) : w.heap.size ≤ gb178)); have n3_ := n2_; clear HB; revert n0_ n1_ n2_ n3_; intro HB BK178 GW178 GE178; clear hb hbox hg) | ((with_reducible refine gate_dst (N := 3) rfl ?_); (try (refine gate_guard (by rfl) ?_; dsimp only)); refine box_event ?hg (N := 3) ?hd (cs := #[.int .i64 a1_0, .slice A1_1 l1_1.length c1_1, .slice A1_2 l1_2.length c1_2]) (t := 51) ?hr ?_; (case hd => rfl); (case hg => rfl); (case hr => exact hrw); intro gb179 hg w48 hbox hb; have n0_ := Aside0.mk (blk_below (g := gb178) (o := .cells #[.int .i64 a0_0, .int .i64 a0_1, .slice A0_2 l0_2.length c0_2, .slice A0_3 l0_3.length c0_3] 56 (0, 0)) bkw hb); have n1_ := Aside0.mk (below_step blw hb); have n2_ := Aside0.mk (hbox); have n3_ := Aside0.mk ((by rw [hg]; exact (below_size blw) : w.heap.size ≤ gb179)); have n4_ := n3_; have n5_ := Aside0.mk ((by rw [hg]; exact Nat.ne_of_lt (blk_lt (g := gb178) (o := .cells #[.int .i64 a0_0, .int .i64 a0_1, .slice A0_2 l0_2.length c0_2, .slice A0_3 l0_3.length c0_3] 56 (0, 0)) bkw) : gb178 ≠ gb179)); have n6_ := Aside0.mk ((by rw [hg]; exact Nat.ne_of_gt (blk_lt (g := gb178) (o := .cells #[.int .i64 a0_0, .int .i64 a0_1, .slice A0_2 l0_2.length c0_2, .slice A0_3 l0_3.length c0_3] 56 (0, 0)) bkw) : gb179 ≠ gb178)); clear BK178; clear HB; revert n0_ n1_ n2_ n3_ n4_ n5_ n6_; intro BK178 HB BK179 GW179 GE179 NB178_179 NB179_178; clear hb hbox hg; have hnb49 := NB179_178.out; have hnc49 := NB178_179.out; obtain ⟨hcz50_0, hcz50_1, hcz50_2⟩ := cls3 BK179.out; obtain ⟨hfz50_0, hfz50_1, hfz50_2⟩ := frz3 BK179.out))
 (try simp only [Act.put, List.setIfInBounds_toArray, List.set_cons_zero, List.set_cons_succ])
 go_cut [58] (fun v58 wc => ∃ (kq : Nat) (x58_45 : Bool), v58 = .bool x58_45 ∧ Aside0 (spec_l5Has.j0 kq x58_45 a0_0 a0_1 l0_2 l0_3 a1_0 l1_1 l1_2 = some r) ∧ Aside0 (kq ≤ k) ∧ Aside0 (wc.heap[gb178]? = some (.cells #[.int .i64 a0_0, .int .i64 a0_1, (.slice A0_2 l0_2.length c0_2), (.slice A0_3 l0_3.length c0_3)] 56 (0, 0))) ∧ Aside0 (wc.heap[gb179]? = some (.cells #[.int .i64 a1_0, (.slice A1_1 l1_1.length c1_1), (.slice A1_2 l1_2.length c1_2)] 51 (0, 0))) ∧ Aside0 (Below w.heap.size w wc))
 case first =>
  have H := HC46.out
  clear HC46
  by_cases c51 : a0_1 = 0
  case neg =>
   rw [if_neg c51] at H
   have c51b0 : (a0_1 == 0) = false := beq_eq_false_iff_ne.mpr c51
   have c51b1 : (a0_1 != 0) = true := bne_iff_ne.mpr c51
   (first | rw [c51b0] | (simp only [i64_w, i32_w]; rw [c51b0]) | (rw [c51b1]; (try simp only [Bool.not_true, Bool.not_false])) | skip)
   have H' := Aside0.mk H
   clear H
   have hnb56 := NB178_179.out
   have hnc56 := NB179_178.out
   obtain ⟨hcz57_0, hcz57_1, hcz57_2, hcz57_3⟩ := cls4 BK178.out
   obtain ⟨hfz57_0, hfz57_1, hfz57_2, hfz57_3⟩ := frz4 BK178.out
   go_wp2
   go_meet
   case rel => exact ⟨_, (true), rfs, H', ⟨by first | omega | exact Nat.le_refl _⟩, ⟨bkw⟩, ⟨bkw⟩, ⟨blw⟩⟩
  rw [if_pos c51] at H
  have c51b0 : (a0_1 == 0) = true := beq_iff_eq.mpr c51
  have c51b1 : (a0_1 != 0) = false := bne_eq_false_iff_eq.mpr c51
  clear c51
  (first | rw [c51b0] | (simp only [i64_w, i32_w]; rw [c51b0]) | (rw [c51b1]; (try simp only [Bool.not_true, Bool.not_false])) | skip)
  replace H := Option.bind_eq_some_iff.mp H
  obtain ⟨t181, A520, H⟩ := H
  replace H : (spec_l5Has.j0 k (!t181) a0_0 a0_1 l0_2 l0_3 a1_0 l1_1 l1_2) = some r := H
  have A52 := Aside0.mk A520
  clear A520
  have H' := Aside0.mk H
  clear H
  have hnb53 := NB178_179.out
  have hnc53 := NB179_178.out
  obtain ⟨hcz54_0, hcz54_1, hcz54_2, hcz54_3⟩ := cls4 BK178.out
  obtain ⟨hfz54_0, hfz54_1, hfz54_2, hfz54_3⟩ := frz4 BK178.out
  obtain ⟨hcz55_0, hcz55_1, hcz55_2⟩ := cls3 BK179.out
  obtain ⟨hfz55_0, hfz55_1, hfz55_2⟩ := frz3 BK179.out
  go_wp2_with (first | (go_at_call 48; (with_reducible refine (spec_l3Texts.calls k _ _ l0_2 _ _ l1_1 t181 _ ?side1 ?side2 ?side3 ?side4 A52.out).mono ?_); (case side1 => have X_ := HR0_2; exact cbl); (case side2 => exact HC0_2.out); (case side3 => have X_ := HR1_1; exact cbl); (case side4 => exact HC1_1.out); rintro e w' ⟨rfl, ⟨nd, rfl⟩⟩))
  go_meet
  case rel => exact ⟨_, (!t181), rfs, H', ⟨by first | omega | exact Nat.le_refl _⟩, ⟨bkw⟩, ⟨bkw⟩, ⟨blw⟩⟩
 case rest =>
  clear HC46
  (try clear c1); (try clear c2); (try clear p2); (try clear c3); (try clear c3b0); (try clear c3b1); (try clear c4); (try clear c4b0); (try clear c4b1); (try clear c5); (try clear c5b0); (try clear c5b1); (try clear c5b2); (try clear c8); (try clear c13); (try clear c18); (try clear c21); (try clear c21b0); (try clear c21b1); (try clear c22); (try clear c22b0); (try clear c22b1); (try clear c24); (try clear c25); (try clear c25b0); (try clear c25b1); (try clear c25b2); (try clear c28); (try clear c31); (try clear c33); (try clear c38); (try clear c43); (try clear c49); (try clear c51); (try clear c51b0); (try clear c51b1); (try clear c53); (try clear c56); (try clear hcz10_0); (try clear hcz10_1); (try clear hcz10_2); (try clear hcz10_3); (try clear hcz14_0); (try clear hcz14_1); (try clear hcz14_2); (try clear hcz15_0); (try clear hcz15_1); (try clear hcz15_2); (try clear hcz15_3); (try clear hcz19_0); (try clear hcz19_1); (try clear hcz19_2); (try clear hcz20_0); (try clear hcz20_1); (try clear hcz20_2); (try clear hcz20_3); (try clear hcz29_0); (try clear hcz29_1); (try clear hcz29_2); (try clear hcz30_0); (try clear hcz30_1); (try clear hcz30_2); (try clear hcz30_3); (try clear hcz34_0); (try clear hcz34_1); (try clear hcz34_2); (try clear hcz35_0); (try clear hcz35_1); (try clear hcz35_2); (try clear hcz35_3); (try clear hcz39_0); (try clear hcz39_1); (try clear hcz39_2); (try clear hcz40_0); (try clear hcz40_1); (try clear hcz40_2); (try clear hcz40_3); (try clear hcz44_0); (try clear hcz44_1); (try clear hcz44_2); (try clear hcz45_0); (try clear hcz45_1); (try clear hcz45_2); (try clear hcz45_3); (try clear hcz50_0); (try clear hcz50_1); (try clear hcz50_2); (try clear hcz54_0); (try clear hcz54_1); (try clear hcz54_2); (try clear hcz54_3); (try clear hcz55_0); (try clear hcz55_1); (try clear hcz55_2); (try clear hcz57_0); (try clear hcz57_1); (try clear hcz57_2); (try clear hcz57_3); (try clear hcz9_0); (try clear hcz9_1); (try clear hcz9_2); (try clear hfz10_0); (try clear hfz10_1); (try clear hfz10_2); (try clear hfz10_3); (try clear hfz14_0); (try clear hfz14_1); (try clear hfz14_2); (try clear hfz15_0); (try clear hfz15_1); (try clear hfz15_2); (try clear hfz15_3); (try clear hfz19_0); (try clear hfz19_1); (try clear hfz19_2); (try clear hfz20_0); (try clear hfz20_1); (try clear hfz20_2); (try clear hfz20_3); (try clear hfz29_0); (try clear hfz29_1); (try clear hfz29_2); (try clear hfz30_0); (try clear hfz30_1); (try clear hfz30_2); (try clear hfz30_3); (try clear hfz34_0); (try clear hfz34_1); (try clear hfz34_2); (try clear hfz35_0); (try clear hfz35_1); (try clear hfz35_2); (try clear hfz35_3); (try clear hfz39_0); (try clear hfz39_1); (try clear hfz39_2); (try clear hfz40_0); (try clear hfz40_1); (try clear hfz40_2); (try clear hfz40_3); (try clear hfz44_0); (try clear hfz44_1); (try clear hfz44_2); (try clear hfz45_0); (try clear hfz45_1); (try clear hfz45_2); (try clear hfz45_3); (try clear hfz50_0); (try clear hfz50_1); (try clear hfz50_2)
  (try clear hfz54_0); (try clear hfz54_1); (try clear hfz54_2); (try clear hfz54_3); (try clear hfz55_0); (try clear hfz55_1); (try clear hfz55_2); (try clear hfz57_0); (try clear hfz57_1); (try clear hfz57_2); (try clear hfz57_3); (try clear hfz9_0); (try clear hfz9_1); (try clear hfz9_2)
  obtain ⟨kq, x58_45, rfl, HA, HJ45, BK178, BK179, HB⟩ := hcut
  cases kq with
  | zero => exact absurd HA.out (by simp [spec_l5Has.j0])
  | succ kj45 =>
   have H := HA.out
   clear HA
   simp only [spec_l5Has.j0] at H
   by_cases c58 : x58_45 = true
   ·subst c58
    have H1 : (some false) = some r := by rw [if_pos rfl] at H; exact H
    clear H
    have H := H1
    clear H1
    obtain rfl := Option.some.inj H
    go_wp2
    go_ret
    exact ⟨rfw, blw⟩
   replace c58 := Bool.eq_false_iff.mpr c58
   subst c58
   have H1 : (if a1_0 = 3 then (if a0_0 = 3 then (if (l0_3.length : Int) = (l1_2.length : Int) then (if a1_0 = 4 then (spec_l5Has.j1 kj45 (a0_0 != 4) a0_0 a0_1 l0_2 l0_3 a1_0 l1_1 l1_2) else (spec_l5Has.j1 kj45 false a0_0 a0_1 l0_2 l0_3 a1_0 l1_1 l1_2)) else (spec_l5Has.j1 kj45 true a0_0 a0_1 l0_2 l0_3 a1_0 l1_1 l1_2)) else (spec_l5Has.j1 kj45 true a0_0 a0_1 l0_2 l0_3 a1_0 l1_1 l1_2)) else (if a1_0 = 4 then (spec_l5Has.j1 kj45 (a0_0 != 4) a0_0 a0_1 l0_2 l0_3 a1_0 l1_1 l1_2) else (spec_l5Has.j1 kj45 false a0_0 a0_1 l0_2 l0_3 a1_0 l1_1 l1_2))) = some r := by rw [if_neg (show ¬ (false = true) by decide)] at H; exact H
   clear H
   have H := H1
   clear H1
   have HC59 := Aside0.mk H
   clear H
   go_upto_region 8 with (fail)
   go_cut [85] (fun v85 wc => ∃ (kq : Nat) (x85_58 : Bool), v85 = .bool x85_58 ∧ Aside0 (spec_l5Has.j1 kq x85_58 a0_0 a0_1 l0_2 l0_3 a1_0 l1_1 l1_2 = some r) ∧ Aside0 (kq ≤ kj45) ∧ Aside0 (wc.heap[gb178]? = some (.cells #[.int .i64 a0_0, .int .i64 a0_1, (.slice A0_2 l0_2.length c0_2), (.slice A0_3 l0_3.length c0_3)] 56 (0, 0))) ∧ Aside0 (wc.heap[gb179]? = some (.cells #[.int .i64 a1_0, (.slice A1_1 l1_1.length c1_1), (.slice A1_2 l1_2.length c1_2)] 51 (0, 0))) ∧ Aside0 (Below w.heap.size w wc))
   case first =>
    have H := HC59.out
    clear HC59
    by_cases c60 : a1_0 = 3
    case neg =>
     rw [if_neg c60] at H
     have c60b0 : (a1_0 == 3) = false := beq_eq_false_iff_ne.mpr c60
     have c60b1 : (a1_0 != 3) = true := bne_iff_ne.mpr c60
     (first | rw [c60b0] | (simp only [i64_w, i32_w]; rw [c60b0]) | (rw [c60b1]; (try simp only [Bool.not_true, Bool.not_false])) | skip)
     by_cases c76 : a1_0 = 4
     case neg =>
      rw [if_neg c76] at H
      have c76b0 : (a1_0 == 4) = false := beq_eq_false_iff_ne.mpr c76
      have c76b1 : (a1_0 != 4) = true := bne_iff_ne.mpr c76
      have H' := Aside0.mk H
      clear H
      have hnb80 := NB179_178.out
      have hnc80 := NB178_179.out
      obtain ⟨hcz81_0, hcz81_1, hcz81_2⟩ := cls3 BK179.out
      obtain ⟨hfz81_0, hfz81_1, hfz81_2⟩ := frz3 BK179.out
      go_wp2
      go_meet
      case rel => exact ⟨_, (false), rfs, H', ⟨by have := HJ45.out; first | omega | exact Nat.le_refl _⟩, ⟨bkw⟩, ⟨bkw⟩, ⟨blw⟩⟩
     rw [if_pos c76] at H
     have c76b0 : (a1_0 == 4) = true := beq_iff_eq.mpr c76
     have c76b1 : (a1_0 != 4) = false := bne_eq_false_iff_eq.mpr c76
     clear c76
     have H' := Aside0.mk H
     clear H
     have hnb77 := NB179_178.out
     have hnc77 := NB178_179.out
     obtain ⟨hcz78_0, hcz78_1, hcz78_2⟩ := cls3 BK179.out
     obtain ⟨hfz78_0, hfz78_1, hfz78_2⟩ := frz3 BK179.out
     obtain ⟨hcz79_0, hcz79_1, hcz79_2, hcz79_3⟩ := cls4 BK178.out
     obtain ⟨hfz79_0, hfz79_1, hfz79_2, hfz79_3⟩ := frz4 BK178.out
     go_wp2
     go_meet
     case rel => exact ⟨_, ((a0_0 != 4)), rfs, H', ⟨by have := HJ45.out; first | omega | exact Nat.le_refl _⟩, ⟨bkw⟩, ⟨bkw⟩, ⟨blw⟩⟩
    rw [if_pos c60] at H
    have c60b0 : (a1_0 == 3) = true := beq_iff_eq.mpr c60
    have c60b1 : (a1_0 != 3) = false := bne_eq_false_iff_eq.mpr c60
    clear c60
    (first | rw [c60b0] | (simp only [i64_w, i32_w]; rw [c60b0]) | (rw [c60b1]; (try simp only [Bool.not_true, Bool.not_false])) | skip)
    by_cases c61 : a0_0 = 3
    case neg =>
     rw [if_neg c61] at H
     have c61b0 : (a0_0 == 3) = false := beq_eq_false_iff_ne.mpr c61
     have c61b1 : (a0_0 != 3) = true := bne_iff_ne.mpr c61
     have H' := Aside0.mk H
     clear H
     have hnb73 := NB179_178.out
     have hnc73 := NB178_179.out
     obtain ⟨hcz74_0, hcz74_1, hcz74_2⟩ := cls3 BK179.out
     obtain ⟨hfz74_0, hfz74_1, hfz74_2⟩ := frz3 BK179.out
     obtain ⟨hcz75_0, hcz75_1, hcz75_2, hcz75_3⟩ := cls4 BK178.out
     obtain ⟨hfz75_0, hfz75_1, hfz75_2, hfz75_3⟩ := frz4 BK178.out
     go_wp2
     go_meet
     case rel => exact ⟨_, (true), rfs, H', ⟨by have := HJ45.out; first | omega | exact Nat.le_refl _⟩, ⟨bkw⟩, ⟨bkw⟩, ⟨blw⟩⟩
    rw [if_pos c61] at H
    have c61b0 : (a0_0 == 3) = true := beq_iff_eq.mpr c61
    have c61b1 : (a0_0 != 3) = false := bne_eq_false_iff_eq.mpr c61
    clear c61
    by_cases c62 : (l0_3.length : Int) = (l1_2.length : Int)
    case neg =>
     rw [if_neg c62] at H
     have c62b0 : ((l0_3.length : Int) == (l1_2.length : Int)) = false := beq_eq_false_iff_ne.mpr c62
     have c62b1 : ((l0_3.length : Int) != (l1_2.length : Int)) = true := bne_iff_ne.mpr c62
     have c62b2 : (l0_3.length == l1_2.length) = false := by first | simpa using c62 | (simp at c62 ⊢; omega)
     have H' := Aside0.mk H
     clear H
     have hnb70 := NB179_178.out
     have hnc70 := NB178_179.out
     obtain ⟨hcz71_0, hcz71_1, hcz71_2⟩ := cls3 BK179.out
     obtain ⟨hfz71_0, hfz71_1, hfz71_2⟩ := frz3 BK179.out
     obtain ⟨hcz72_0, hcz72_1, hcz72_2, hcz72_3⟩ := cls4 BK178.out
     obtain ⟨hfz72_0, hfz72_1, hfz72_2, hfz72_3⟩ := frz4 BK178.out
     go_wp2
     go_meet
     case rel => exact ⟨_, (true), rfs, H', ⟨by have := HJ45.out; first | omega | exact Nat.le_refl _⟩, ⟨bkw⟩, ⟨bkw⟩, ⟨blw⟩⟩
    rw [if_pos c62] at H
    have c62b0 : ((l0_3.length : Int) == (l1_2.length : Int)) = true := beq_iff_eq.mpr c62
    have c62b1 : ((l0_3.length : Int) != (l1_2.length : Int)) = false := bne_eq_false_iff_eq.mpr c62
    have c62b2 : (l0_3.length == l1_2.length) = true := by first | simpa using c62 | (simp at c62 ⊢; omega)
    clear c62
    by_cases c63 : a1_0 = 4
    case neg =>
     rw [if_neg c63] at H
     have c63b0 : (a1_0 == 4) = false := beq_eq_false_iff_ne.mpr c63
     have c63b1 : (a1_0 != 4) = true := bne_iff_ne.mpr c63
     have H' := Aside0.mk H
     clear H
     have hnb67 := NB179_178.out
     have hnc67 := NB178_179.out
     obtain ⟨hcz68_0, hcz68_1, hcz68_2⟩ := cls3 BK179.out
     obtain ⟨hfz68_0, hfz68_1, hfz68_2⟩ := frz3 BK179.out
     obtain ⟨hcz69_0, hcz69_1, hcz69_2, hcz69_3⟩ := cls4 BK178.out
     obtain ⟨hfz69_0, hfz69_1, hfz69_2, hfz69_3⟩ := frz4 BK178.out
     go_wp2
     go_meet
     case rel => exact ⟨_, (false), rfs, H', ⟨by have := HJ45.out; first | omega | exact Nat.le_refl _⟩, ⟨bkw⟩, ⟨bkw⟩, ⟨blw⟩⟩
    rw [if_pos c63] at H
    have c63b0 : (a1_0 == 4) = true := beq_iff_eq.mpr c63
    have c63b1 : (a1_0 != 4) = false := bne_eq_false_iff_eq.mpr c63
    clear c63
    have H' := Aside0.mk H
    clear H
    have hnb64 := NB179_178.out
    have hnc64 := NB178_179.out
    obtain ⟨hcz65_0, hcz65_1, hcz65_2⟩ := cls3 BK179.out
    obtain ⟨hfz65_0, hfz65_1, hfz65_2⟩ := frz3 BK179.out
    obtain ⟨hcz66_0, hcz66_1, hcz66_2, hcz66_3⟩ := cls4 BK178.out
    obtain ⟨hfz66_0, hfz66_1, hfz66_2, hfz66_3⟩ := frz4 BK178.out
    go_wp2
    go_meet
    case rel => exact ⟨_, ((a0_0 != 4)), rfs, H', ⟨by have := HJ45.out; first | omega | exact Nat.le_refl _⟩, ⟨bkw⟩, ⟨bkw⟩, ⟨blw⟩⟩
   case rest =>
    clear HC59
    (try clear c1); (try clear c2); (try clear p2); (try clear c3); (try clear c3b0); (try clear c3b1); (try clear c4); (try clear c4b0); (try clear c4b1); (try clear c5); (try clear c5b0); (try clear c5b1); (try clear c5b2); (try clear c6); (try clear c7); (try clear c8); (try clear c13); (try clear c18); (try clear c21); (try clear c21b0); (try clear c21b1); (try clear c22); (try clear c22b0); (try clear c22b1); (try clear c24); (try clear c25); (try clear c25b0); (try clear c25b1); (try clear c25b2); (try clear c28); (try clear c31); (try clear c33); (try clear c38); (try clear c43); (try clear c49); (try clear c51); (try clear c51b0); (try clear c51b1); (try clear c53); (try clear c56); (try clear c58); (try clear c60); (try clear c60b0); (try clear c60b1); (try clear c61); (try clear c61b0); (try clear c61b1); (try clear c62); (try clear c62b0); (try clear c62b1); (try clear c62b2); (try clear c63); (try clear c63b0); (try clear c63b1); (try clear c64); (try clear c67); (try clear c70); (try clear c73); (try clear c76); (try clear c76b0); (try clear c76b1); (try clear c77); (try clear c80); (try clear hcz10_0); (try clear hcz10_1); (try clear hcz10_2); (try clear hcz10_3); (try clear hcz14_0); (try clear hcz14_1); (try clear hcz14_2); (try clear hcz15_0); (try clear hcz15_1); (try clear hcz15_2); (try clear hcz15_3); (try clear hcz19_0); (try clear hcz19_1); (try clear hcz19_2); (try clear hcz20_0); (try clear hcz20_1); (try clear hcz20_2); (try clear hcz20_3); (try clear hcz29_0); (try clear hcz29_1); (try clear hcz29_2); (try clear hcz30_0); (try clear hcz30_1); (try clear hcz30_2); (try clear hcz30_3); (try clear hcz34_0); (try clear hcz34_1); (try clear hcz34_2); (try clear hcz35_0); (try clear hcz35_1); (try clear hcz35_2); (try clear hcz35_3); (try clear hcz39_0); (try clear hcz39_1); (try clear hcz39_2); (try clear hcz40_0); (try clear hcz40_1); (try clear hcz40_2); (try clear hcz40_3); (try clear hcz44_0); (try clear hcz44_1); (try clear hcz44_2); (try clear hcz45_0); (try clear hcz45_1); (try clear hcz45_2); (try clear hcz45_3); (try clear hcz50_0); (try clear hcz50_1); (try clear hcz50_2); (try clear hcz54_0); (try clear hcz54_1); (try clear hcz54_2); (try clear hcz54_3); (try clear hcz55_0); (try clear hcz55_1); (try clear hcz55_2); (try clear hcz57_0); (try clear hcz57_1); (try clear hcz57_2); (try clear hcz57_3); (try clear hcz65_0); (try clear hcz65_1); (try clear hcz65_2); (try clear hcz66_0); (try clear hcz66_1); (try clear hcz66_2); (try clear hcz66_3); (try clear hcz68_0); (try clear hcz68_1); (try clear hcz68_2); (try clear hcz69_0); (try clear hcz69_1); (try clear hcz69_2); (try clear hcz69_3); (try clear hcz71_0); (try clear hcz71_1); (try clear hcz71_2); (try clear hcz72_0); (try clear hcz72_1); (try clear hcz72_2); (try clear hcz72_3); (try clear hcz74_0); (try clear hcz74_1); (try clear hcz74_2); (try clear hcz75_0); (try clear hcz75_1); (try clear hcz75_2); (try clear hcz75_3); (try clear hcz78_0); (try clear hcz78_1)
    (try clear hcz78_2); (try clear hcz79_0); (try clear hcz79_1); (try clear hcz79_2); (try clear hcz79_3); (try clear hcz81_0); (try clear hcz81_1); (try clear hcz81_2); (try clear hcz9_0); (try clear hcz9_1); (try clear hcz9_2); (try clear hfz10_0); (try clear hfz10_1); (try clear hfz10_2); (try clear hfz10_3); (try clear hfz14_0); (try clear hfz14_1); (try clear hfz14_2); (try clear hfz15_0); (try clear hfz15_1); (try clear hfz15_2); (try clear hfz15_3); (try clear hfz19_0); (try clear hfz19_1); (try clear hfz19_2); (try clear hfz20_0); (try clear hfz20_1); (try clear hfz20_2); (try clear hfz20_3); (try clear hfz29_0); (try clear hfz29_1); (try clear hfz29_2); (try clear hfz30_0); (try clear hfz30_1); (try clear hfz30_2); (try clear hfz30_3); (try clear hfz34_0); (try clear hfz34_1); (try clear hfz34_2); (try clear hfz35_0); (try clear hfz35_1); (try clear hfz35_2); (try clear hfz35_3); (try clear hfz39_0); (try clear hfz39_1); (try clear hfz39_2); (try clear hfz40_0); (try clear hfz40_1); (try clear hfz40_2); (try clear hfz40_3); (try clear hfz44_0); (try clear hfz44_1); (try clear hfz44_2); (try clear hfz45_0); (try clear hfz45_1); (try clear hfz45_2); (try clear hfz45_3); (try clear hfz50_0); (try clear hfz50_1); (try clear hfz50_2); (try clear hfz54_0); (try clear hfz54_1); (try clear hfz54_2); (try clear hfz54_3); (try clear hfz55_0); (try clear hfz55_1); (try clear hfz55_2); (try clear hfz57_0); (try clear hfz57_1); (try clear hfz57_2); (try clear hfz57_3); (try clear hfz65_0); (try clear hfz65_1); (try clear hfz65_2); (try clear hfz66_0); (try clear hfz66_1); (try clear hfz66_2); (try clear hfz66_3); (try clear hfz68_0); (try clear hfz68_1); (try clear hfz68_2); (try clear hfz69_0); (try clear hfz69_1); (try clear hfz69_2); (try clear hfz69_3); (try clear hfz71_0); (try clear hfz71_1); (try clear hfz71_2); (try clear hfz72_0); (try clear hfz72_1); (try clear hfz72_2); (try clear hfz72_3); (try clear hfz74_0); (try clear hfz74_1); (try clear hfz74_2); (try clear hfz75_0); (try clear hfz75_1); (try clear hfz75_2); (try clear hfz75_3); (try clear hfz78_0); (try clear hfz78_1); (try clear hfz78_2); (try clear hfz79_0); (try clear hfz79_1); (try clear hfz79_2); (try clear hfz79_3); (try clear hfz81_0); (try clear hfz81_1); (try clear hfz81_2); (try clear hfz9_0); (try clear hfz9_1); (try clear hfz9_2); (try clear p2)
    obtain ⟨kq, x85_58, rfl, HA, HJ58, BK178, BK179, HB⟩ := hcut
    cases kq with
    | zero => exact absurd HA.out (by simp [spec_l5Has.j1])
    | succ kj58 =>
     have H := HA.out
     clear HA
     simp only [spec_l5Has.j1] at H
     by_cases c82 : x85_58 = true
     ·subst c82
      have H1 : (some false) = some r := by rw [if_pos rfl] at H; exact H
      clear H
      have H := H1
      clear H1
      obtain rfl := Option.some.inj H
      go_wp2
      go_ret
      exact ⟨rfw, blw⟩
     replace c82 := Bool.eq_false_iff.mpr c82
     subst c82
     have H1 : (spec_l5Has.l0 kj58 0 a0_0 a0_1 l0_2 l0_3 a1_0 l1_1 l1_2) = some r := by rw [if_neg (show ¬ (false = true) by decide)] at H; exact H
     clear H
     have H := H1
     clear H1
     have H' := Aside0.mk H
     clear H
     go_wp2
     go_loopg [5] kj58 (fun kq v5 w' => ∃ (x5_3 : Int), v5 = .int .i64 x5_3 ∧ Aside0 (spec_l5Has.l0 kq x5_3 a0_0 a0_1 l0_2 l0_3 a1_0 l1_1 l1_2 = some r) ∧ Aside0 (kq ≤ kj58) ∧ Aside0 (w'.heap[gb178]? = some (.cells #[.int .i64 a0_0, .int .i64 a0_1, (.slice A0_2 l0_2.length c0_2), (.slice A0_3 l0_3.length c0_3)] 56 (0, 0))) ∧ Aside0 (w'.heap[gb179]? = some (.cells #[.int .i64 a1_0, (.slice A1_1 l1_1.length c1_1), (.slice A1_2 l1_2.length c1_2)] 51 (0, 0))) ∧ Aside0 (Below w.heap.size w w'))
     case atStart => exact ⟨(0), rfs, H', ⟨Nat.le_refl _⟩, ⟨bkw⟩, ⟨bkw⟩, ⟨blw⟩⟩
     case round =>
      clear H'
      (try clear c1); (try clear c2); (try clear p2); (try clear c3); (try clear c3b0); (try clear c3b1); (try clear c4); (try clear c4b0); (try clear c4b1); (try clear c5); (try clear c5b0); (try clear c5b1); (try clear c5b2); (try clear c6); (try clear c7); (try clear c8); (try clear c13); (try clear c18); (try clear c21); (try clear c21b0); (try clear c21b1); (try clear c22); (try clear c22b0); (try clear c22b1); (try clear c24); (try clear c25); (try clear c25b0); (try clear c25b1); (try clear c25b2); (try clear c28); (try clear c31); (try clear c33); (try clear c38); (try clear c43); (try clear c49); (try clear c51); (try clear c51b0); (try clear c51b1); (try clear c53); (try clear c56); (try clear c58); (try clear c60); (try clear c60b0); (try clear c60b1); (try clear c61); (try clear c61b0); (try clear c61b1); (try clear c62); (try clear c62b0); (try clear c62b1); (try clear c62b2); (try clear c63); (try clear c63b0); (try clear c63b1); (try clear c64); (try clear c67); (try clear c70); (try clear c73); (try clear c76); (try clear c76b0); (try clear c76b1); (try clear c77); (try clear c80); (try clear c82); (try clear hcz10_0); (try clear hcz10_1); (try clear hcz10_2); (try clear hcz10_3); (try clear hcz14_0); (try clear hcz14_1); (try clear hcz14_2); (try clear hcz15_0); (try clear hcz15_1); (try clear hcz15_2); (try clear hcz15_3); (try clear hcz19_0); (try clear hcz19_1); (try clear hcz19_2); (try clear hcz20_0); (try clear hcz20_1); (try clear hcz20_2); (try clear hcz20_3); (try clear hcz29_0); (try clear hcz29_1); (try clear hcz29_2); (try clear hcz30_0); (try clear hcz30_1); (try clear hcz30_2); (try clear hcz30_3); (try clear hcz34_0); (try clear hcz34_1); (try clear hcz34_2); (try clear hcz35_0); (try clear hcz35_1); (try clear hcz35_2); (try clear hcz35_3); (try clear hcz39_0); (try clear hcz39_1); (try clear hcz39_2); (try clear hcz40_0); (try clear hcz40_1); (try clear hcz40_2); (try clear hcz40_3); (try clear hcz44_0); (try clear hcz44_1); (try clear hcz44_2); (try clear hcz45_0); (try clear hcz45_1); (try clear hcz45_2); (try clear hcz45_3); (try clear hcz50_0); (try clear hcz50_1); (try clear hcz50_2); (try clear hcz54_0); (try clear hcz54_1); (try clear hcz54_2); (try clear hcz54_3); (try clear hcz55_0); (try clear hcz55_1); (try clear hcz55_2); (try clear hcz57_0); (try clear hcz57_1); (try clear hcz57_2); (try clear hcz57_3); (try clear hcz65_0); (try clear hcz65_1); (try clear hcz65_2); (try clear hcz66_0); (try clear hcz66_1); (try clear hcz66_2); (try clear hcz66_3); (try clear hcz68_0); (try clear hcz68_1); (try clear hcz68_2); (try clear hcz69_0); (try clear hcz69_1); (try clear hcz69_2); (try clear hcz69_3); (try clear hcz71_0); (try clear hcz71_1); (try clear hcz71_2); (try clear hcz72_0); (try clear hcz72_1); (try clear hcz72_2); (try clear hcz72_3); (try clear hcz74_0); (try clear hcz74_1); (try clear hcz74_2); (try clear hcz75_0); (try clear hcz75_1); (try clear hcz75_2); (try clear hcz75_3); (try clear hcz78_0); (try clear hcz78_1)
      (try clear hcz78_2); (try clear hcz79_0); (try clear hcz79_1); (try clear hcz79_2); (try clear hcz79_3); (try clear hcz81_0); (try clear hcz81_1); (try clear hcz81_2); (try clear hcz9_0); (try clear hcz9_1); (try clear hcz9_2); (try clear hfz10_0); (try clear hfz10_1); (try clear hfz10_2); (try clear hfz10_3); (try clear hfz14_0); (try clear hfz14_1); (try clear hfz14_2); (try clear hfz15_0); (try clear hfz15_1); (try clear hfz15_2); (try clear hfz15_3); (try clear hfz19_0); (try clear hfz19_1); (try clear hfz19_2); (try clear hfz20_0); (try clear hfz20_1); (try clear hfz20_2); (try clear hfz20_3); (try clear hfz29_0); (try clear hfz29_1); (try clear hfz29_2); (try clear hfz30_0); (try clear hfz30_1); (try clear hfz30_2); (try clear hfz30_3); (try clear hfz34_0); (try clear hfz34_1); (try clear hfz34_2); (try clear hfz35_0); (try clear hfz35_1); (try clear hfz35_2); (try clear hfz35_3); (try clear hfz39_0); (try clear hfz39_1); (try clear hfz39_2); (try clear hfz40_0); (try clear hfz40_1); (try clear hfz40_2); (try clear hfz40_3); (try clear hfz44_0); (try clear hfz44_1); (try clear hfz44_2); (try clear hfz45_0); (try clear hfz45_1); (try clear hfz45_2); (try clear hfz45_3); (try clear hfz50_0); (try clear hfz50_1); (try clear hfz50_2); (try clear hfz54_0); (try clear hfz54_1); (try clear hfz54_2); (try clear hfz54_3); (try clear hfz55_0); (try clear hfz55_1); (try clear hfz55_2); (try clear hfz57_0); (try clear hfz57_1); (try clear hfz57_2); (try clear hfz57_3); (try clear hfz65_0); (try clear hfz65_1); (try clear hfz65_2); (try clear hfz66_0); (try clear hfz66_1); (try clear hfz66_2); (try clear hfz66_3); (try clear hfz68_0); (try clear hfz68_1); (try clear hfz68_2); (try clear hfz69_0); (try clear hfz69_1); (try clear hfz69_2); (try clear hfz69_3); (try clear hfz71_0); (try clear hfz71_1); (try clear hfz71_2); (try clear hfz72_0); (try clear hfz72_1); (try clear hfz72_2); (try clear hfz72_3); (try clear hfz74_0); (try clear hfz74_1); (try clear hfz74_2); (try clear hfz75_0); (try clear hfz75_1); (try clear hfz75_2); (try clear hfz75_3); (try clear hfz78_0); (try clear hfz78_1); (try clear hfz78_2); (try clear hfz79_0); (try clear hfz79_1); (try clear hfz79_2); (try clear hfz79_3); (try clear hfz81_0); (try clear hfz81_1); (try clear hfz81_2); (try clear hfz9_0); (try clear hfz9_1); (try clear hfz9_2); (try clear p2)
      obtain ⟨x5_3, rfl, HA, HK3, BK178, BK179, HB⟩ := hrel
      cases gk with
      | zero => exact absurd HA.out (by simp [spec_l5Has.l0])
      | succ k3 =>
       have H := HA.out
       clear HA
       simp only [spec_l5Has.l0] at H
       by_cases c83 : x5_3 < (l0_3.length : Int)
       case neg =>
        rw [if_neg c83] at H
        have c83b0 : decide (x5_3 < (l0_3.length : Int)) = false := decide_eq_false c83
        clear c83
        obtain rfl := Option.some.inj H
        have hnb105 := NB178_179.out
        have hnc105 := NB179_178.out
        obtain ⟨hcz106_0, hcz106_1, hcz106_2, hcz106_3⟩ := cls4 BK178.out
        obtain ⟨hfz106_0, hfz106_1, hfz106_2, hfz106_3⟩ := frz4 BK178.out
        go_wp2
        go_ret
        exact ⟨rfw, blw⟩
       rw [if_pos c83] at H
       have c83b0 : decide (x5_3 < (l0_3.length : Int)) = true := decide_eq_true c83
       clear c83
       by_cases c84 : a1_0 = 3
       ·rw [if_pos c84] at H
        have c84b0 : (a1_0 == 3) = true := beq_iff_eq.mpr c84
        have c84b1 : (a1_0 != 3) = false := bne_eq_false_iff_eq.mpr c84
        clear c84
        by_cases c85 : 0 ≤ x5_3
        case neg =>
         rw [if_neg c85] at H
         exact absurd H (by simp)
        rw [if_pos c85] at H
        have c85b0 : decide (0 ≤ x5_3) = true := decide_eq_true c85
        clear c85
        by_cases c86 : x5_3 < (l1_2.length : Int)
        case neg =>
         rw [if_neg c86] at H
         exact absurd H (by simp)
        rw [if_pos c86] at H
        have c86b0 : decide (x5_3 < (l1_2.length : Int)) = true := decide_eq_true c86
        clear c86
        replace H := Option.bind_eq_some_iff.mp H
        obtain ⟨t184, A870, H⟩ := H
        replace H : (if t184 = true then (spec_l5Has.l0 k3 (wrap64 (x5_3 + 1)) a0_0 a0_1 l0_2 l0_3 a1_0 l1_1 l1_2) else (some false)) = some r := H
        have A87 := Aside0.mk A870
        clear A870
        have HC88 := Aside0.mk H
        clear H
        have hnb89 := NB178_179.out
        have hnc89 := NB179_178.out
        obtain ⟨hcz90_0, hcz90_1, hcz90_2, hcz90_3⟩ := cls4 BK178.out
        obtain ⟨hfz90_0, hfz90_1, hfz90_2, hfz90_3⟩ := frz4 BK178.out
        obtain ⟨hcz91_0, hcz91_1, hcz91_2⟩ := cls3 BK179.out
        obtain ⟨hfz91_0, hfz91_1, hfz91_2⟩ := frz3 BK179.out
        try go_wp2
        have n0_ := Aside0.mk (blk_drew BK178.out)
        have n1_ := Aside0.mk (blk_drew BK179.out)
        have n2_ := Aside0.mk (below_drew1 HB.out)
        clear BK178
        clear BK179
        clear HB
        revert n0_ n1_ n2_
        intro BK178 BK179 HB
        have p182 : 0 ≤ (x5_3 : Int) := of_decide_eq_true asw
        have q182 : x5_3 < (l0_3.length : Int) := of_decide_eq_true asw
        obtain ⟨ad182, A182_2, c182_2, A182_3, c182_3, e182, hx182_0, hx182_1, hx182_2, hx182_3, hl182_2, hi182_2, hl182_3, hi182_3⟩ := at_T56 HR0_3.out x5_3 p182 q182
        have hw182_3 := hx182_3
        have hw182_2 := hx182_2
        have hw182_1 := hx182_1
        have hw182_0 := hx182_0
        cases e182
        replace hx182_0 := upw HB.out hx182_0
        replace hx182_1 := upw HB.out hx182_1
        replace hx182_2 := upw HB.out hx182_2
        replace hx182_3 := upw HB.out hx182_3
        have HR182_2 := Aside0.mk hi182_2
        have HC182_2 := Aside0.mk hl182_2
        clear hi182_2 hl182_2
        have HR182_3 := Aside0.mk hi182_3
        have HC182_3 := Aside0.mk hl182_3
        clear hi182_3 hl182_3
        replace p182 := eq_true p182
        replace q182 := eq_true q182
        have p183 : 0 ≤ (x5_3 : Int) := of_decide_eq_true asw
        have q183 : x5_3 < (l1_2.length : Int) := of_decide_eq_true asw
        obtain ⟨ad183, A183_1, c183_1, A183_2, c183_2, e183, hx183_0, hx183_1, hx183_2, hl183_1, hi183_1, hl183_2, hi183_2⟩ := at_T51 HR1_2.out x5_3 p183 q183
        have hw183_2 := hx183_2
        have hw183_1 := hx183_1
        have hw183_0 := hx183_0
        cases e183
        replace hx183_0 := upw HB.out hx183_0
        replace hx183_1 := upw HB.out hx183_1
        replace hx183_2 := upw HB.out hx183_2
        have HR183_1 := Aside0.mk hi183_1
        have HC183_1 := Aside0.mk hl183_1
        clear hi183_1 hl183_1
        have HR183_2 := Aside0.mk hi183_2
        have HC183_2 := Aside0.mk hl183_2
        clear hi183_2 hl183_2
        replace p183 := eq_true p183
        replace q183 := eq_true q183
        refine start_ (n := 12) (S := fun w' => w'.cell? ⟨gb178, 0, none⟩ = some (.int .i64 a0_0) ∧ w'.cell? ⟨gb178, 1, none⟩ = some (.int .i64 a0_1) ∧ w'.cell? ⟨gb178, 2, none⟩ = some (.slice A0_2 l0_2.length c0_2) ∧ w'.cell? ⟨gb178, 3, none⟩ = some (.slice (some ad182) l0_3.length c0_3) ∧ w'.cell? ⟨gb179, 0, none⟩ = some (.int .i64 a1_0) ∧ w'.cell? ⟨gb179, 1, none⟩ = some (.slice A1_1 l1_1.length c1_1) ∧ w'.cell? ⟨gb179, 2, none⟩ = some (.slice (some ad183) l1_2.length c1_2) ∧ w'.cell? (ad182.add ((x5_3).toNat * 4)) = some (.int .i64 ((rd_T56 l0_3 x5_3).f0)) ∧ w'.cell? ⟨(ad182.add ((x5_3).toNat * 4)).block, (ad182.add ((x5_3).toNat * 4)).off + 1, none⟩ = some (.int .i64 ((rd_T56 l0_3 x5_3).f1)) ∧ w'.cell? ⟨(ad182.add ((x5_3).toNat * 4)).block, (ad182.add ((x5_3).toNat * 4)).off + 2, none⟩ = some (.slice A182_2 ((rd_T56 l0_3 x5_3).f2).length c182_2) ∧ w'.cell? ⟨(ad182.add ((x5_3).toNat * 4)).block, (ad182.add ((x5_3).toNat * 4)).off + 3, none⟩ = some (.slice A182_3 ((rd_T56 l0_3 x5_3).f3).length c182_3) ∧ w'.cell? (ad183.add ((x5_3).toNat * 3)) = some (.int .i64 ((rd_T51 l1_2 x5_3).f0)) ∧ w'.cell? ⟨(ad183.add ((x5_3).toNat * 3)).block, (ad183.add ((x5_3).toNat * 3)).off + 1, none⟩ = some (.slice A183_1 ((rd_T51 l1_2 x5_3).f1).length c183_1) ∧ w'.cell? ⟨(ad183.add ((x5_3).toNat * 3)).block, (ad183.add ((x5_3).toNat * 3)).off + 2, none⟩ = some (.slice A183_2 ((rd_T51 l1_2 x5_3).f2).length c183_2)) (ds := []) #[false,false,false,false,false,false,false,false,false,false,false,false] kr rfl rfl ⟨(blk_cell BK178.out 0).trans rfl, (blk_cell BK178.out 1).trans rfl, (blk_cell BK178.out 2).trans rfl, (blk_cell BK178.out 3).trans rfl, (blk_cell BK179.out 0).trans rfl, (blk_cell BK179.out 1).trans rfl, (blk_cell BK179.out 2).trans rfl, ((HB.out.cell (World.block_lt_of_cell? w _ hw182_0)).trans hw182_0), ((HB.out.cell (World.block_lt_of_cell? w _ hw182_1)).trans hw182_1), ((HB.out.cell (World.block_lt_of_cell? w _ hw182_2)).trans hw182_2), ((HB.out.cell (World.block_lt_of_cell? w _ hw182_3)).trans hw182_3), ((HB.out.cell (World.block_lt_of_cell? w _ hw183_0)).trans hw183_0), ((HB.out.cell (World.block_lt_of_cell? w _ hw183_1)).trans hw183_1), ((HB.out.cell (World.block_lt_of_cell? w _ hw183_2)).trans hw183_2)⟩ (fun hHeld => ?_); refine with_tabW spec_l5Has.tab16 spec_l5Has.bits16 (fun HT_ HW_ => ?_)
        generalize wr.drew = w92 at BK178 BK179 HB HR182_2 HR182_3 HR183_1 HR183_2 hx182_0 hx182_1 hx182_2 hx182_3 hx183_0 hx183_1 hx183_2 hHeld ⊢
        refine pure_ (i := 0) (N := some 97) (v := ?_) (a' := ?_) (bm 12 1) rfl rfl (any_of HT_.out kr) qi (Or.inl ⟨by rfl, ?_⟩) ?_ ?_
        rotate_left
        ·intro w'
         go_simp
         with_reducible rfl
        rotate_left
        ·simp only [sx]
         rfl
        refine pure_ (i := 2) (N := some 99) (v := ?_) (a' := ?_) (bm 12 5) rfl rfl (any_of HT_.out kr) qi (Or.inl ⟨by rfl, ?_⟩) ?_ ?_
        rotate_left
        ·intro w'
         go_simp
         with_reducible rfl
        rotate_left
        ·simp only [sx]
         rfl
        refine pure_ (i := 5) (N := some 102) (v := ?_) (a' := ?_) (bm 12 37) rfl rfl (any_of HT_.out kr) qi (Or.inl ⟨by rfl, ?_⟩) ?_ ?_
        rotate_left
        ·intro w'
         go_simp
         with_reducible rfl
        rotate_left
        ·simp only [sx]
         rfl
        refine pure_ (i := 7) (N := some 104) (v := ?_) (a' := ?_) (bm 12 165) rfl rfl (any_of HT_.out kr) qi (Or.inl ⟨by rfl, ?_⟩) ?_ ?_
        rotate_left
        ·intro w'
         go_simp
         with_reducible rfl
        rotate_left
        ·simp only [sx]
         rfl
        refine take_ (i := 1) (N := some 98) (v := ?_) (a' := ?_) (bm 12 167) rfl rfl (take_ofW HT_.out HW_.out kr) qi (Or.inl ⟨by rfl, ?_⟩) hHeld ?_ ?_
        rotate_left
        ·rintro w' ⟨s0, s1, s2, s3, s4, s5, s6, s7, s8, s9, s10, s11, s12, s13⟩
         go_simp
         with_reducible rfl
        rotate_left
        ·simp only [sx]
         rfl
        refine pure_ (i := 3) (N := some 100) (v := ?_) (a' := ?_) (bm 12 175) rfl rfl (any_of HT_.out kr) qi (Or.inl ⟨by rfl, ?_⟩) ?_ ?_
        rotate_left
        ·intro w'
         go_simp
         with_reducible rfl
        rotate_left
        ·simp only [sx]
         rfl
        refine take_ (i := 4) (N := some 101) (v := ?_) (a' := ?_) (bm 12 191) rfl rfl (take_ofW HT_.out HW_.out kr) qi (Or.inl ⟨by rfl, ?_⟩) hHeld ?_ ?_
        rotate_left
        ·rintro w' ⟨s0, s1, s2, s3, s4, s5, s6, s7, s8, s9, s10, s11, s12, s13⟩
         go_simp
         with_reducible rfl
        rotate_left
        ·simp only [sx]
         rfl
        refine take_ (i := 6) (N := some 103) (v := ?_) (a' := ?_) (bm 12 255) rfl rfl (take_ofW HT_.out HW_.out kr) qi (Or.inl ⟨by rfl, ?_⟩) hHeld ?_ ?_
        rotate_left
        ·rintro w' ⟨s0, s1, s2, s3, s4, s5, s6, s7, s8, s9, s10, s11, s12, s13⟩
         go_simp
         with_reducible rfl
        rotate_left
        ·simp only [sx]
         rfl
        refine pure_ (i := 8) (N := some 105) (v := ?_) (a' := ?_) (bm 12 511) rfl rfl (any_of HT_.out kr) qi (Or.inl ⟨by rfl, ?_⟩) ?_ ?_
        rotate_left
        ·intro w'
         go_simp
         with_reducible rfl
        rotate_left
        ·simp only [sx]
         rfl
        refine take_ (i := 9) (N := some 106) (v := ?_) (a' := ?_) (bm 12 1023) rfl rfl (take_ofW HT_.out HW_.out kr) qi (Or.inl ⟨by rfl, ?_⟩) hHeld ?_ ?_
        rotate_left
        ·rintro w' ⟨s0, s1, s2, s3, s4, s5, s6, s7, s8, s9, s10, s11, s12, s13⟩
         go_simp
         with_reducible rfl
        rotate_left
        ·simp only [sx]
         rfl
        refine one_ (i := 10) (N := some 107) (bm 12 2047) rfl rfl (one_of HT_.out kr) (by decide) (fun K hK => ?_)
        refine goes_ Try.func31 kr rfl #[.agg #[.int .i64 ((rd_T56 l0_3 x5_3).f0), .int .i64 ((rd_T56 l0_3 x5_3).f1), .slice A182_2 ((rd_T56 l0_3 x5_3).f2).length c182_2, .slice A182_3 ((rd_T56 l0_3 x5_3).f3).length c182_3], .agg #[.int .i64 ((rd_T51 l1_2 x5_3).f0), .slice A183_1 ((rd_T51 l1_2 x5_3).f1).length c183_1, .slice A183_2 ((rd_T51 l1_2 x5_3).f2).length c183_2]] (by rfl) rfl rfl mpw ?_
        with_reducible refine (ih k3 (by have := HJ45.out; have := HJ58.out; have := HK3.out; omega) ((rd_T56 l0_3 x5_3).f0) ((rd_T56 l0_3 x5_3).f1) _ _ ((rd_T56 l0_3 x5_3).f2) _ _ ((rd_T56 l0_3 x5_3).f3) ((rd_T51 l1_2 x5_3).f0) _ _ ((rd_T51 l1_2 x5_3).f1) _ _ ((rd_T51 l1_2 x5_3).f2) t184 _ ?side1 ?side2 ?side3 ?side4 ?side5 ?side6 ?side7 ?side8 A87.out).mono ?_
        (case side1 => have X_ := HR182_2; exact cbl)
        (case side2 => exact HC182_2.out)
        (case side3 => have X_ := HR182_3; exact cbl)
        (case side4 => exact HC182_3.out)
        (case side5 => have X_ := HR183_1; exact cbl)
        (case side6 => exact HC183_1.out)
        (case side7 => have X_ := HR183_2; exact cbl)
        (case side8 => exact HC183_2.out)
        rintro e w93 ⟨rfl, hb⟩
        refine ⟨_, rfl, ?_⟩
        have n0_ := Aside0.mk (blk_below (g := gb178) (o := .cells #[.int .i64 a0_0, .int .i64 a0_1, .slice A0_2 l0_2.length c0_2, .slice (some ad182) l0_3.length c0_3] 56 (0, 0)) bkw hb)
        have n1_ := Aside0.mk (blk_below (g := gb179) (o := .cells #[.int .i64 a1_0, .slice A1_1 l1_1.length c1_1, .slice (some ad183) l1_2.length c1_2] 51 (0, 0)) bkw hb)
        have n2_ := Aside0.mk (below_step blw hb)
        clear BK178
        clear BK179
        clear HB
        revert n0_ n1_ n2_
        intro BK178 BK179 HB
        (try clear hb)
        (try clear hb2)
        (try clear hk)
        (try clear hi)
        refine hK.out _ _ ⟨(blk_cell BK178.out 0).trans rfl, (blk_cell BK178.out 1).trans rfl, (blk_cell BK178.out 2).trans rfl, (blk_cell BK178.out 3).trans rfl, (blk_cell BK179.out 0).trans rfl, (blk_cell BK179.out 1).trans rfl, (blk_cell BK179.out 2).trans rfl, ((HB.out.cell (World.block_lt_of_cell? w _ hw182_0)).trans hw182_0), ((HB.out.cell (World.block_lt_of_cell? w _ hw182_1)).trans hw182_1), ((HB.out.cell (World.block_lt_of_cell? w _ hw182_2)).trans hw182_2), ((HB.out.cell (World.block_lt_of_cell? w _ hw182_3)).trans hw182_3), ((HB.out.cell (World.block_lt_of_cell? w _ hw183_0)).trans hw183_0), ((HB.out.cell (World.block_lt_of_cell? w _ hw183_1)).trans hw183_1), ((HB.out.cell (World.block_lt_of_cell? w _ hw183_2)).trans hw183_2)⟩ (fun hHeld => ?_)
        clear hK K
        refine norm_ (a' := ?_) ?_ ?_
        rotate_left
        ·show Act.put _ (some 107) _ = _
         simp only [sx]
         rfl
        refine pure_ (i := 11) (N := some 108) (v := ?_) (a' := ?_) (bm 12 4095) rfl rfl (any_of HT_.out kr) qi (Or.inl ⟨by rfl, ?_⟩) ?_ ?_
        rotate_left
        ·intro w'
         go_simp
         with_reducible rfl
        rotate_left
        ·simp only [sx]
         rfl
        refine done_ (done_of HT_.out kr) ?_
        go_upto_if 108 with (fail)
        have H := HC88.out
        clear HC88
        by_cases c94 : t184 = true
        case neg =>
         replace c94 := Bool.eq_false_iff.mpr c94
         subst c94
         have H1 : (some false) = some r := by rw [if_neg (show ¬ (false = true) by decide)] at H; exact H
         clear H
         have H := H1
         clear H1
         obtain rfl := Option.some.inj H
         go_wp2
         go_ret
         exact ⟨rfw, blw⟩
        subst c94
        have H1 : (spec_l5Has.l0 k3 (wrap64 (x5_3 + 1)) a0_0 a0_1 l0_2 l0_3 a1_0 l1_1 l1_2) = some r := by rw [if_pos rfl] at H; exact H
        clear H
        have H := H1
        clear H1
        have H' := Aside0.mk H
        clear H
        go_wp2
        go_roundg k3
        case measure => have := HJ45.out; have := HJ58.out; have := HK3.out; omega
        case rel => exact ⟨(wrap64 (x5_3 + 1)), rfs, H', ⟨by have := HJ45.out; have := HJ58.out; have := HK3.out; omega⟩, ⟨bkw⟩, ⟨bkw⟩, ⟨blw⟩⟩
       rw [if_neg c84] at H
       have c84b0 : (a1_0 == 3) = false := beq_eq_false_iff_ne.mpr c84
       have c84b1 : (a1_0 != 3) = true := bne_iff_ne.mpr c84
       by_cases c95 : 0 ≤ x5_3
       case neg =>
        rw [if_neg c95] at H
        exact absurd H (by simp)
       rw [if_pos c95] at H
       have c95b0 : decide (0 ≤ x5_3) = true := decide_eq_true c95
       clear c95
       by_cases c96 : 0 < (l1_2.length : Int)
       case neg =>
        rw [if_neg c96] at H
        exact absurd H (by simp)
       rw [if_pos c96] at H
       have c96b0 : decide (0 < (l1_2.length : Int)) = true := decide_eq_true c96
       have c96b1 : decide (0 < l1_2.length) = true := decide_eq_true (by omega)
       clear c96
       replace H := Option.bind_eq_some_iff.mp H
       obtain ⟨t187, A970, H⟩ := H
       replace H : (if t187 = true then (spec_l5Has.l0 k3 (wrap64 (x5_3 + 1)) a0_0 a0_1 l0_2 l0_3 a1_0 l1_1 l1_2) else (some false)) = some r := H
       have A97 := Aside0.mk A970
       clear A970
       have HC98 := Aside0.mk H
       clear H
       have hnb99 := NB178_179.out
       have hnc99 := NB179_178.out
       obtain ⟨hcz100_0, hcz100_1, hcz100_2, hcz100_3⟩ := cls4 BK178.out
       obtain ⟨hfz100_0, hfz100_1, hfz100_2, hfz100_3⟩ := frz4 BK178.out
       obtain ⟨hcz101_0, hcz101_1, hcz101_2⟩ := cls3 BK179.out
       obtain ⟨hfz101_0, hfz101_1, hfz101_2⟩ := frz3 BK179.out
       try go_wp2
       have n0_ := Aside0.mk (blk_drew BK178.out)
       have n1_ := Aside0.mk (blk_drew BK179.out)
       have n2_ := Aside0.mk (below_drew1 HB.out)
       clear BK178
       clear BK179
       clear HB
       revert n0_ n1_ n2_
       intro BK178 BK179 HB
       have p185 : 0 ≤ (x5_3 : Int) := of_decide_eq_true asw
       have q185 : x5_3 < (l0_3.length : Int) := of_decide_eq_true asw
       obtain ⟨ad185, A185_2, c185_2, A185_3, c185_3, e185, hx185_0, hx185_1, hx185_2, hx185_3, hl185_2, hi185_2, hl185_3, hi185_3⟩ := at_T56 HR0_3.out x5_3 p185 q185
       have hw185_3 := hx185_3
       have hw185_2 := hx185_2
       have hw185_1 := hx185_1
       have hw185_0 := hx185_0
       cases e185
       replace hx185_0 := upw HB.out hx185_0
       replace hx185_1 := upw HB.out hx185_1
       replace hx185_2 := upw HB.out hx185_2
       replace hx185_3 := upw HB.out hx185_3
       have HR185_2 := Aside0.mk hi185_2
       have HC185_2 := Aside0.mk hl185_2
       clear hi185_2 hl185_2
       have HR185_3 := Aside0.mk hi185_3
       have HC185_3 := Aside0.mk hl185_3
       clear hi185_3 hl185_3
       replace p185 := eq_true p185
       replace q185 := eq_true q185
       have p186 : 0 ≤ (0 : Int) := (by omega)
       have q186 : 0 < (l1_2.length : Int) := of_decide_eq_true asw
       obtain ⟨ad186, A186_1, c186_1, A186_2, c186_2, e186, hx186_0, hx186_1, hx186_2, hl186_1, hi186_1, hl186_2, hi186_2⟩ := at_T51 HR1_2.out 0 p186 q186
       have hw186_2 := hx186_2
       (try rw [show ((0 : Int)).toNat = 0 from rfl] at hw186_2)
       (try rw [show 0 * 3 = 0 from rfl] at hw186_2)
       (try rw [Addr.add_zero'] at hw186_2)
       have hw186_1 := hx186_1
       (try rw [show ((0 : Int)).toNat = 0 from rfl] at hw186_1)
       (try rw [show 0 * 3 = 0 from rfl] at hw186_1)
       (try rw [Addr.add_zero'] at hw186_1)
       have hw186_0 := hx186_0
       (try rw [show ((0 : Int)).toNat = 0 from rfl] at hw186_0)
       (try rw [show 0 * 3 = 0 from rfl] at hw186_0)
       (try rw [Addr.add_zero'] at hw186_0)
       cases e186
       have qi186 : (0 < l1_2.length) = True := eq_true (by omega)
       (try rw [show ((0 : Int)).toNat = 0 from rfl] at hx186_0)
       (try rw [show 0 * 3 = 0 from rfl] at hx186_0)
       (try rw [Addr.add_zero'] at hx186_0)
       (try rw [show ((0 : Int)).toNat = 0 from rfl] at hx186_1)
       (try rw [show 0 * 3 = 0 from rfl] at hx186_1)
       (try rw [Addr.add_zero'] at hx186_1)
       (try rw [show ((0 : Int)).toNat = 0 from rfl] at hx186_2)
       (try rw [show 0 * 3 = 0 from rfl] at hx186_2)
       (try rw [Addr.add_zero'] at hx186_2)
       replace hx186_0 := upw HB.out hx186_0
       replace hx186_1 := upw HB.out hx186_1
       replace hx186_2 := upw HB.out hx186_2
       have HR186_1 := Aside0.mk hi186_1
       have HC186_1 := Aside0.mk hl186_1
       clear hi186_1 hl186_1
       have HR186_2 := Aside0.mk hi186_2
       have HC186_2 := Aside0.mk hl186_2
       clear hi186_2 hl186_2
       replace p186 := eq_true p186
       replace q186 := eq_true q186
       refine start_ (n := 12) (S := fun w' => w'.cell? ⟨gb178, 0, none⟩ = some (.int .i64 a0_0) ∧ w'.cell? ⟨gb178, 1, none⟩ = some (.int .i64 a0_1) ∧ w'.cell? ⟨gb178, 2, none⟩ = some (.slice A0_2 l0_2.length c0_2) ∧ w'.cell? ⟨gb178, 3, none⟩ = some (.slice (some ad185) l0_3.length c0_3) ∧ w'.cell? ⟨gb179, 0, none⟩ = some (.int .i64 a1_0) ∧ w'.cell? ⟨gb179, 1, none⟩ = some (.slice A1_1 l1_1.length c1_1) ∧ w'.cell? ⟨gb179, 2, none⟩ = some (.slice (some ad186) l1_2.length c1_2) ∧ w'.cell? (ad185.add ((x5_3).toNat * 4)) = some (.int .i64 ((rd_T56 l0_3 x5_3).f0)) ∧ w'.cell? ⟨(ad185.add ((x5_3).toNat * 4)).block, (ad185.add ((x5_3).toNat * 4)).off + 1, none⟩ = some (.int .i64 ((rd_T56 l0_3 x5_3).f1)) ∧ w'.cell? ⟨(ad185.add ((x5_3).toNat * 4)).block, (ad185.add ((x5_3).toNat * 4)).off + 2, none⟩ = some (.slice A185_2 ((rd_T56 l0_3 x5_3).f2).length c185_2) ∧ w'.cell? ⟨(ad185.add ((x5_3).toNat * 4)).block, (ad185.add ((x5_3).toNat * 4)).off + 3, none⟩ = some (.slice A185_3 ((rd_T56 l0_3 x5_3).f3).length c185_3) ∧ w'.cell? ad186 = some (.int .i64 ((rd_T51 l1_2 0).f0)) ∧ w'.cell? ⟨ad186.block, ad186.off + 1, none⟩ = some (.slice A186_1 ((rd_T51 l1_2 0).f1).length c186_1) ∧ w'.cell? ⟨ad186.block, ad186.off + 2, none⟩ = some (.slice A186_2 ((rd_T51 l1_2 0).f2).length c186_2)) (ds := []) #[false,false,false,false,false,false,false,false,false,false,false,false] kr rfl rfl ⟨(blk_cell BK178.out 0).trans rfl, (blk_cell BK178.out 1).trans rfl, (blk_cell BK178.out 2).trans rfl, (blk_cell BK178.out 3).trans rfl, (blk_cell BK179.out 0).trans rfl, (blk_cell BK179.out 1).trans rfl, (blk_cell BK179.out 2).trans rfl, ((HB.out.cell (World.block_lt_of_cell? w _ hw185_0)).trans hw185_0), ((HB.out.cell (World.block_lt_of_cell? w _ hw185_1)).trans hw185_1), ((HB.out.cell (World.block_lt_of_cell? w _ hw185_2)).trans hw185_2), ((HB.out.cell (World.block_lt_of_cell? w _ hw185_3)).trans hw185_3), ((HB.out.cell (World.block_lt_of_cell? w _ hw186_0)).trans hw186_0), ((HB.out.cell (World.block_lt_of_cell? w _ hw186_1)).trans hw186_1), ((HB.out.cell (World.block_lt_of_cell? w _ hw186_2)).trans hw186_2)⟩ (fun hHeld => ?_); refine with_tabW spec_l5Has.tab16 spec_l5Has.bits16 (fun HT_ HW_ => ?_)
       generalize wr.drew = w102 at BK178 BK179 HB HR185_2 HR185_3 HR186_1 HR186_2 hx185_0 hx185_1 hx185_2 hx185_3 hx186_0 hx186_1 hx186_2 hHeld ⊢
       refine pure_ (i := 0) (N := some 97) (v := ?_) (a' := ?_) (bm 12 1) rfl rfl (any_of HT_.out kr) qi (Or.inl ⟨by rfl, ?_⟩) ?_ ?_
       rotate_left
       ·intro w'
        go_simp
        with_reducible rfl
       rotate_left
       ·simp only [sx]
        rfl
       refine pure_ (i := 2) (N := some 99) (v := ?_) (a' := ?_) (bm 12 5) rfl rfl (any_of HT_.out kr) qi (Or.inl ⟨by rfl, ?_⟩) ?_ ?_
       rotate_left
       ·intro w'
        go_simp
        with_reducible rfl
       rotate_left
       ·simp only [sx]
        rfl
       refine pure_ (i := 5) (N := some 102) (v := ?_) (a' := ?_) (bm 12 37) rfl rfl (any_of HT_.out kr) qi (Or.inl ⟨by rfl, ?_⟩) ?_ ?_
       rotate_left
       ·intro w'
        go_simp
        with_reducible rfl
       rotate_left
       ·simp only [sx]
        rfl
       refine pure_ (i := 7) (N := some 104) (v := ?_) (a' := ?_) (bm 12 165) rfl rfl (any_of HT_.out kr) qi (Or.inl ⟨by rfl, ?_⟩) ?_ ?_
       rotate_left
       ·intro w'
        go_simp
        with_reducible rfl
       rotate_left
       ·simp only [sx]
        rfl
       refine take_ (i := 1) (N := some 98) (v := ?_) (a' := ?_) (bm 12 167) rfl rfl (take_ofW HT_.out HW_.out kr) qi (Or.inl ⟨by rfl, ?_⟩) hHeld ?_ ?_
       rotate_left
       ·rintro w' ⟨s0, s1, s2, s3, s4, s5, s6, s7, s8, s9, s10, s11, s12, s13⟩
        go_simp
        with_reducible rfl
       rotate_left
       ·simp only [sx]
        rfl
       refine pure_ (i := 3) (N := some 100) (v := ?_) (a' := ?_) (bm 12 175) rfl rfl (any_of HT_.out kr) qi (Or.inl ⟨by rfl, ?_⟩) ?_ ?_
       rotate_left
       ·intro w'
        go_simp
        with_reducible rfl
       rotate_left
       ·simp only [sx]
        rfl
       refine take_ (i := 4) (N := some 101) (v := ?_) (a' := ?_) (bm 12 191) rfl rfl (take_ofW HT_.out HW_.out kr) qi (Or.inl ⟨by rfl, ?_⟩) hHeld ?_ ?_
       rotate_left
       ·rintro w' ⟨s0, s1, s2, s3, s4, s5, s6, s7, s8, s9, s10, s11, s12, s13⟩
        go_simp
        with_reducible rfl
       rotate_left
       ·simp only [sx]
        rfl
       refine take_ (i := 6) (N := some 103) (v := ?_) (a' := ?_) (bm 12 255) rfl rfl (take_ofW HT_.out HW_.out kr) qi (Or.inl ⟨by rfl, ?_⟩) hHeld ?_ ?_
       rotate_left
       ·rintro w' ⟨s0, s1, s2, s3, s4, s5, s6, s7, s8, s9, s10, s11, s12, s13⟩
        go_simp
        with_reducible rfl
       rotate_left
       ·simp only [sx]
        rfl
       refine pure_ (i := 8) (N := some 105) (v := ?_) (a' := ?_) (bm 12 511) rfl rfl (any_of HT_.out kr) qi (Or.inl ⟨by rfl, ?_⟩) ?_ ?_
       rotate_left
       ·intro w'
        go_simp
        with_reducible rfl
       rotate_left
       ·simp only [sx]
        rfl
       refine take_ (i := 9) (N := some 106) (v := ?_) (a' := ?_) (bm 12 1023) rfl rfl (take_ofW HT_.out HW_.out kr) qi (Or.inl ⟨by rfl, ?_⟩) hHeld ?_ ?_
       rotate_left
       ·rintro w' ⟨s0, s1, s2, s3, s4, s5, s6, s7, s8, s9, s10, s11, s12, s13⟩
        go_simp
        with_reducible rfl
       rotate_left
       ·simp only [sx]
        rfl
       refine one_ (i := 10) (N := some 107) (bm 12 2047) rfl rfl (one_of HT_.out kr) (by decide) (fun K hK => ?_)
       refine goes_ Try.func31 kr rfl #[.agg #[.int .i64 ((rd_T56 l0_3 x5_3).f0), .int .i64 ((rd_T56 l0_3 x5_3).f1), .slice A185_2 ((rd_T56 l0_3 x5_3).f2).length c185_2, .slice A185_3 ((rd_T56 l0_3 x5_3).f3).length c185_3], .agg #[.int .i64 ((rd_T51 l1_2 0).f0), .slice A186_1 ((rd_T51 l1_2 0).f1).length c186_1, .slice A186_2 ((rd_T51 l1_2 0).f2).length c186_2]] (by rfl) rfl rfl mpw ?_
       with_reducible refine (ih k3 (by have := HJ45.out; have := HJ58.out; have := HK3.out; omega) ((rd_T56 l0_3 x5_3).f0) ((rd_T56 l0_3 x5_3).f1) _ _ ((rd_T56 l0_3 x5_3).f2) _ _ ((rd_T56 l0_3 x5_3).f3) ((rd_T51 l1_2 0).f0) _ _ ((rd_T51 l1_2 0).f1) _ _ ((rd_T51 l1_2 0).f2) t187 _ ?side1 ?side2 ?side3 ?side4 ?side5 ?side6 ?side7 ?side8 A97.out).mono ?_
       (case side1 => have X_ := HR185_2; exact cbl)
       (case side2 => exact HC185_2.out)
       (case side3 => have X_ := HR185_3; exact cbl)
       (case side4 => exact HC185_3.out)
       (case side5 => have X_ := HR186_1; exact cbl)
       (case side6 => exact HC186_1.out)
       (case side7 => have X_ := HR186_2; exact cbl)
       (case side8 => exact HC186_2.out)
       rintro e w103 ⟨rfl, hb⟩
       refine ⟨_, rfl, ?_⟩
       have n0_ := Aside0.mk (blk_below (g := gb178) (o := .cells #[.int .i64 a0_0, .int .i64 a0_1, .slice A0_2 l0_2.length c0_2, .slice (some ad185) l0_3.length c0_3] 56 (0, 0)) bkw hb)
       have n1_ := Aside0.mk (blk_below (g := gb179) (o := .cells #[.int .i64 a1_0, .slice A1_1 l1_1.length c1_1, .slice (some ad186) l1_2.length c1_2] 51 (0, 0)) bkw hb)
       have n2_ := Aside0.mk (below_step blw hb)
       clear BK178
       clear BK179
       clear HB
       revert n0_ n1_ n2_
       intro BK178 BK179 HB
       (try clear hb)
       (try clear hb2)
       (try clear hk)
       (try clear hi)
       refine hK.out _ _ ⟨(blk_cell BK178.out 0).trans rfl, (blk_cell BK178.out 1).trans rfl, (blk_cell BK178.out 2).trans rfl, (blk_cell BK178.out 3).trans rfl, (blk_cell BK179.out 0).trans rfl, (blk_cell BK179.out 1).trans rfl, (blk_cell BK179.out 2).trans rfl, ((HB.out.cell (World.block_lt_of_cell? w _ hw185_0)).trans hw185_0), ((HB.out.cell (World.block_lt_of_cell? w _ hw185_1)).trans hw185_1), ((HB.out.cell (World.block_lt_of_cell? w _ hw185_2)).trans hw185_2), ((HB.out.cell (World.block_lt_of_cell? w _ hw185_3)).trans hw185_3), ((HB.out.cell (World.block_lt_of_cell? w _ hw186_0)).trans hw186_0), ((HB.out.cell (World.block_lt_of_cell? w _ hw186_1)).trans hw186_1), ((HB.out.cell (World.block_lt_of_cell? w _ hw186_2)).trans hw186_2)⟩ (fun hHeld => ?_)
       clear hK K
       refine norm_ (a' := ?_) ?_ ?_
       rotate_left
       ·show Act.put _ (some 107) _ = _
        simp only [sx]
        rfl
       refine pure_ (i := 11) (N := some 108) (v := ?_) (a' := ?_) (bm 12 4095) rfl rfl (any_of HT_.out kr) qi (Or.inl ⟨by rfl, ?_⟩) ?_ ?_
       rotate_left
       ·intro w'
        go_simp
        with_reducible rfl
       rotate_left
       ·simp only [sx]
        rfl
       refine done_ (done_of HT_.out kr) ?_
       go_upto_if 108 with (fail)
       have H := HC98.out
       clear HC98
       by_cases c104 : t187 = true
       case neg =>
        replace c104 := Bool.eq_false_iff.mpr c104
        subst c104
        have H1 : (some false) = some r := by rw [if_neg (show ¬ (false = true) by decide)] at H; exact H
        clear H
        have H := H1
        clear H1
        obtain rfl := Option.some.inj H
        go_wp2
        go_ret
        exact ⟨rfw, blw⟩
       subst c104
       have H1 : (spec_l5Has.l0 k3 (wrap64 (x5_3 + 1)) a0_0 a0_1 l0_2 l0_3 a1_0 l1_1 l1_2) = some r := by rw [if_pos rfl] at H; exact H
       clear H
       have H := H1
       clear H1
       have H' := Aside0.mk H
       clear H
       go_wp2
       go_roundg k3
       case measure => have := HJ45.out; have := HJ58.out; have := HK3.out; omega
       case rel => exact ⟨(wrap64 (x5_3 + 1)), rfs, H', ⟨by have := HJ45.out; have := HJ58.out; have := HK3.out; omega⟩, ⟨bkw⟩, ⟨bkw⟩, ⟨blw⟩⟩

end Go.Proofs.Ytfbecaplnigmaaa.Px
