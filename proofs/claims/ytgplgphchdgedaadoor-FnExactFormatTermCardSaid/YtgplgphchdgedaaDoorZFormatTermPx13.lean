/- Printed by a program of this session: what functions of the translation come to, each contract as it stands. No condition. -/
import Derived.Test.YtgplgphchdgedaaDoorZFormatTermSh
import Derived.Test.YtgplgphchdgedaaDoorZFormatTermPx0M
import Derived.Test.YtgplgphchdgedaaDoorZFormatTermPx10M
import Derived.Test.YtgplgphchdgedaaDoorZFormatTermPx12
namespace Go.Proofs.YtgplgphchdgedaaDoor.Px
open Go.RowKit Go.Proofs.YtgplgphchdgedaaDoor.Ext Go.Proofs.YtgplgphchdgedaaDoorW.PrintWords Go.Proofs.YtgplgphchdgedaaDoorW.PrintLast Go.Proofs.YtgplgphchdgedaaDoorW.PrintMore
attribute [local go_sem] max2_int min2_int max_two min_two max_three min_three max_four min_four   -- for this text's walks alone
set_option linter.unusedVariables false
set_option linter.unusedSimpArgs false

/-! ### spec_l8Text: function 13 -/
mutual
def spec_l8Text.l0 : Nat → List ByteArray → Int → Int → ByteArray → Int → Int → List ByteArray → List (S33) → List ByteArray → List (S36) → Option (ByteArray)
 | 0, _, _, _, _, _, _, _, _, _, _ => none
 | k + 1, x3, x4, x216000, x216001, x216002, x216003, x216004, x216005, x216006, x216007 => if x4 < (x216007.length : Int) then (if 0 ≤ x4 then ((spec_l8Text.f k ((rd_T36 x216007 x4).f0) ((rd_T36 x216007 x4).f1) ((rd_T36 x216007 x4).f2) ((rd_T36 x216007 x4).f3.f0) ((rd_T36 x216007 x4).f3.f1) ((rd_T36 x216007 x4).f3.f2) ((rd_T36 x216007 x4).f4) ((rd_T36 x216007 x4).f5)).bind fun t220 => (if x216000 = 5 then (if x4 < (x216006.length : Int) then (if (rdOf ByteArray.empty x216006 x4).size + 1 ≤ 9223372036854775807 then (if (rdOf ByteArray.empty x216006 x4).size + 1 + t220.size ≤ 9223372036854775807 then (if x3.length < 8796093022208 then (spec_l8Text.l0 k (x3 ++ [((rdOf ByteArray.empty x216006 x4) ++ (⟨#[61]⟩ : ByteArray)) ++ t220]) (wrap64 (x4 + 1)) x216000 x216001 x216002 x216003 x216004 x216005 x216006 x216007) else (none)) else (none)) else (none)) else (none)) else (if x3.length < 8796093022208 then (spec_l8Text.l0 k (x3 ++ [t220]) (wrap64 (x4 + 1)) x216000 x216001 x216002 x216003 x216004 x216005 x216006 x216007) else (none)))) else (none)) else (if x216000 = 1 then (some x216001) else (if x216000 = 2 then ((spec_FormatInt.f k x216002).bind fun t228 => (some t228)) else (if x216000 = 3 then (if 0 ≤ x216002 then (if x216002 ≤ (wrap64 (x216002 + 1)) then (if (wrap64 (x216002 + 1)) ≤ 2 then (if 1 + ((⟨#[102, 116]⟩ : ByteArray).extract (x216002 : Int).toNat ((wrap64 (x216002 + 1)) : Int).toNat).size ≤ 9223372036854775807 then (some ((⟨#[35]⟩ : ByteArray) ++ ((⟨#[102, 116]⟩ : ByteArray).extract (x216002 : Int).toNat ((wrap64 (x216002 + 1)) : Int).toNat))) else (none)) else (none)) else (none)) else (none)) else (if x216000 = 12 then (if 1 + x216001.size ≤ 9223372036854775807 then (some ((⟨#[64]⟩ : ByteArray) ++ x216001)) else (none)) else (if x216000 = 4 then (if (x3.length : Int) = 1 then (if 0 < (x3.length : Int) then (if 2 + (rdOf ByteArray.empty x3 0).size ≤ 9223372036854775807 then (if 2 + (rdOf ByteArray.empty x3 0).size + 1 ≤ 9223372036854775807 then (some (((⟨#[40, 33]⟩ : ByteArray) ++ (rdOf ByteArray.empty x3 0)) ++ (⟨#[41]⟩ : ByteArray))) else (none)) else (none)) else (none)) else (if 0 < (x3.length : Int) then (if 1 + (rdOf ByteArray.empty x3 0).size ≤ 9223372036854775807 then (if 1 + (rdOf ByteArray.empty x3 0).size + x216001.size ≤ 9223372036854775807 then (if 1 < (x3.length : Int) then (if 1 + (rdOf ByteArray.empty x3 0).size + x216001.size + (rdOf ByteArray.empty x3 1).size ≤ 9223372036854775807 then (if 1 + (rdOf ByteArray.empty x3 0).size + x216001.size + (rdOf ByteArray.empty x3 1).size + 1 ≤ 9223372036854775807 then (some (((((⟨#[40]⟩ : ByteArray) ++ (rdOf ByteArray.empty x3 0)) ++ x216001) ++ (rdOf ByteArray.empty x3 1)) ++ (⟨#[41]⟩ : ByteArray))) else (none)) else (none)) else (none)) else (none)) else (none)) else (none))) else (if x216000 = 5 then ((spec_Join.f k x3 (⟨#[44]⟩ : ByteArray)).bind fun t232 => (if 1 + t232.size ≤ 9223372036854775807 then (if 1 + t232.size + 1 ≤ 9223372036854775807 then (some (((⟨#[123]⟩ : ByteArray) ++ t232) ++ (⟨#[125]⟩ : ByteArray))) else (none)) else (none))) else (if x216000 = 6 then (if 0 < (x3.length : Int) then (if (rdOf ByteArray.empty x3 0).size + 1 ≤ 9223372036854775807 then (if (rdOf ByteArray.empty x3 0).size + 1 + x216001.size ≤ 9223372036854775807 then (some (((rdOf ByteArray.empty x3 0) ++ (⟨#[46]⟩ : ByteArray)) ++ x216001)) else (none)) else (none)) else (none)) else (if x216000 = 7 then ((spec_l4Text.f k x216003 x216004 x216005).bind fun t234 => (if 2 + t234.size ≤ 9223372036854775807 then (if 2 + t234.size + 1 ≤ 9223372036854775807 then (some (((⟨#[91, 58]⟩ : ByteArray) ++ t234) ++ (⟨#[93]⟩ : ByteArray))) else (none)) else (none))) else (if x216000 = 8 then (if 0 < (x3.length : Int) then (if 1 + (rdOf ByteArray.empty x3 0).size ≤ 9223372036854775807 then (if 1 + (rdOf ByteArray.empty x3 0).size + 1 ≤ 9223372036854775807 then (some (((⟨#[91]⟩ : ByteArray) ++ (rdOf ByteArray.empty x3 0)) ++ (⟨#[93]⟩ : ByteArray))) else (none)) else (none)) else (none)) else ((spec_l8Long.f k x216000 x216001 x216002 x216003 x216004 x216005 x216006 x216007 x3).bind fun t236 => (some t236)))))))))))
def spec_l8Text.f : Nat → Int → ByteArray → Int → Int → List ByteArray → List (S33) → List ByteArray → List (S36) → Option (ByteArray)
 | 0, _, _, _, _, _, _, _, _ => none
 | k + 1, a0_0, a0_1, a0_2, a0_3, l0_4, l0_5, l0_6, l0_7 => spec_l8Text.l0 k (([] : List ByteArray)) 0 a0_0 a0_1 a0_2 a0_3 l0_4 l0_5 l0_6 l0_7
end
set_option maxHeartbeats 8000000 in
set_option maxRecDepth 100000 in
theorem spec_l8Text.calls (k : Nat) : ∀ (a0_0 : Int) (a0_1 : ByteArray) (a0_2 : Int) (a0_3 : Int) (A0_4 : Option Addr) (c0_4 : Nat) (l0_4 : List ByteArray) (A0_5 : Option Addr) (c0_5 : Nat) (l0_5 : List (S33)) (A0_6 : Option Addr) (c0_6 : Nat) (l0_6 : List ByteArray) (A0_7 : Option Addr) (c0_7 : Nat) (l0_7 : List (S36)) (r : ByteArray) (w : World) (hr0_4 : Kd.C Kd.string w A0_4 l0_4.length l0_4) (hc0_4 : l0_4.length ≤ c0_4) (hr0_5 : Kd.C k33 w A0_5 l0_5.length l0_5) (hc0_5 : l0_5.length ≤ c0_5) (hr0_6 : Kd.C Kd.string w A0_6 l0_6.length l0_6) (hc0_6 : l0_6.length ≤ c0_6) (hr0_7 : Kd.C k36 w A0_7 l0_7.length l0_7) (hc0_7 : l0_7.length ≤ c0_7) (h : spec_l8Text.f k a0_0 a0_1 a0_2 a0_3 l0_4 l0_5 l0_6 l0_7 = some r),
  Calls Tryd.prog 13 #[.agg #[.int .i64 a0_0, .string a0_1, .int .i64 a0_2, .int .i64 a0_3, .slice A0_4 l0_4.length c0_4, .slice A0_5 l0_5.length c0_5, .slice A0_6 l0_6.length c0_6, .slice A0_7 l0_7.length c0_7]] w fun e w' => e = .returned (.string r) ∧ Below w.heap.size w w' := by
 induction k using Nat.strongRecOn with
 | _ k ih =>
 intro a0_0 a0_1 a0_2 a0_3 A0_4 c0_4 l0_4 A0_5 c0_5 l0_5 A0_6 c0_6 l0_6 A0_7 c0_7 l0_7 r w hr0_4 hc0_4 hr0_5 hc0_5 hr0_6 hc0_6 hr0_7 hc0_7 h
 cases k with
 | zero => exact absurd h (by simp [spec_l8Text.f])
 | succ k =>
 simp only [spec_l8Text.f] at h
 have hu36 := Tryd.underlying36
 have hu33 := Tryd.underlying33
 have HR0_4 := am hr0_4
 have HC0_4 := am hc0_4
 clear hr0_4 hc0_4
 have HR0_5 := am hr0_5
 have HC0_5 := am hc0_5
 clear hr0_5 hc0_5
 have HR0_6 := am hr0_6
 have HC0_6 := am hc0_6
 clear hr0_6 hc0_6
 have HR0_7 := am hr0_7
 have HC0_7 := am hc0_7
 clear hr0_7 hc0_7
 have HB := am (Below.refl w.heap.size w)
 have H : (spec_l8Text.l0 k (([] : List ByteArray)) 0 a0_0 a0_1 a0_2 a0_3 l0_4 l0_5 l0_6 l0_7) = some r := h
 clear h
 obtain ⟨y216, hy216⟩ : ∃ y_ : List ByteArray, y_ = (([] : List ByteArray)) := ⟨_, rfl⟩
 replace H : (spec_l8Text.l0 k y216 0 a0_0 a0_1 a0_2 a0_3 l0_4 l0_5 l0_6 l0_7) = some r := by first | (rw [hy216]; with_reducible exact H) | (have H2_ := (Option.bind_some _ _).symm.trans H; rw [hy216]; with_reducible exact H2_) | (have H2_ := (Option.bind_some _ _).symm.trans H; with_reducible exact H2_) | with_reducible exact H | (rw [hy216]; exact H) | exact H
 have Ny216 := am hy216
 clear hy216
 have H' := am H
 clear H
 go_enter Tryd.func13, Tryd.ntmps13
 go_wp2_with (first | ((with_reducible refine gate_dst (N := 1) rfl ?_); refine box_event ?hg (N := 1) ?hd (cs := #[.int .i64 a0_0, .string a0_1, .int .i64 a0_2, .int .i64 a0_3, .slice A0_4 l0_4.length c0_4, .slice A0_5 l0_5.length c0_5, .slice A0_6 l0_6.length c0_6, .slice A0_7 l0_7.length c0_7]) (t := 36) ?hr ?_; (case hd => rfl); (case hg => rfl); (case hr => exact hrw); intro gb215 hg w2 hbox hb; have n0_ := am (below_step blw hb); have n1_ := am (hbox); have n2_ := am ((by rw [hg]; exact (below_size blw) : w.heap.size ≤ gb215)); have n3_ := n2_; clear HB; revert n0_ n1_ n2_ n3_; intro HB BK215 GW215 GE215; clear hb hbox hg) | ((with_reducible refine gate_dst (N := 6) rfl ?_); refine Kd.R_lit Kd.string _ 9 ?hg (N := 6) ?hd (xs := ([] : List ByteArray)) (inner := []) (ok := fun _ => True) (okp := fun _ => True) ?hr ?hp (fun _ hk => hk) trivial (Below.refl _ _) (Nat.le_refl _) (by simp) ?_; (case hd => rfl); (case hg => rfl); (case hr => exact hrw); (case hp => exact (Reps.none _ _)); intro v217 w3 ho4 hb hg_ hnew_; clear hg_ hnew_; (first | rw [← Ny216.out] at ho4 | (simp only [Int.reduceToNat] at ho4; rw [← Ny216.out] at ho4)); have n0_ := am (Kd.R_lower ho4 (below_size blw)); have n1_ := am (blk_below (g := gb215) bkw hb); have n2_ := am (below_step blw hb); clear BK215; clear HB; revert n0_ n1_ n2_; intro HO218 BK215 HB; clear hb ho4))
 repeat (go_quiet (first | ((with_reducible refine gate_dst (N := 1) rfl ?_); refine box_event ?hg (N := 1) ?hd (cs := #[.int .i64 a0_0, .string a0_1, .int .i64 a0_2, .int .i64 a0_3, .slice A0_4 l0_4.length c0_4, .slice A0_5 l0_5.length c0_5, .slice A0_6 l0_6.length c0_6, .slice A0_7 l0_7.length c0_7]) (t := 36) ?hr ?_; (case hd => rfl); (case hg => rfl); (case hr => exact hrw); intro gb215 hg w2 hbox hb; have n0_ := am (below_step blw hb); have n1_ := am (hbox); have n2_ := am ((by rw [hg]; exact (below_size blw) : w.heap.size ≤ gb215)); have n3_ := n2_; clear HB; revert n0_ n1_ n2_ n3_; intro HB BK215 GW215 GE215; clear hb hbox hg) | ((with_reducible refine gate_dst (N := 6) rfl ?_); refine Kd.R_lit Kd.string _ 9 ?hg (N := 6) ?hd (xs := ([] : List ByteArray)) (inner := []) (ok := fun _ => True) (okp := fun _ => True) ?hr ?hp (fun _ hk => hk) trivial (Below.refl _ _) (Nat.le_refl _) (by simp) ?_; (case hd => rfl); (case hg => rfl); (case hr => exact hrw); (case hp => exact (Reps.none _ _)); intro v217 w3 ho4 hb hg_ hnew_; clear hg_ hnew_; (first | rw [← Ny216.out] at ho4 | (simp only [Int.reduceToNat] at ho4; rw [← Ny216.out] at ho4)); have n0_ := am (Kd.R_lower ho4 (below_size blw)); have n1_ := am (blk_below (g := gb215) bkw hb); have n2_ := am (below_step blw hb); clear BK215; clear HB; revert n0_ n1_ n2_; intro HO218 BK215 HB; clear hb ho4)); try go_wp2_with (first | ((with_reducible refine gate_dst (N := 1) rfl ?_); refine box_event ?hg (N := 1) ?hd (cs := #[.int .i64 a0_0, .string a0_1, .int .i64 a0_2, .int .i64 a0_3, .slice A0_4 l0_4.length c0_4, .slice A0_5 l0_5.length c0_5, .slice A0_6 l0_6.length c0_6, .slice A0_7 l0_7.length c0_7]) (t := 36) ?hr ?_; (case hd => rfl); (case hg => rfl); (case hr => exact hrw); intro gb215 hg w2 hbox hb; have n0_ := am (below_step blw hb); have n1_ := am (hbox); have n2_ := am ((by rw [hg]; exact (below_size blw) : w.heap.size ≤ gb215)); have n3_ := n2_; clear HB; revert n0_ n1_ n2_ n3_; intro HB BK215 GW215 GE215; clear hb hbox hg) | ((with_reducible refine gate_dst (N := 6) rfl ?_); refine Kd.R_lit Kd.string _ 9 ?hg (N := 6) ?hd (xs := ([] : List ByteArray)) (inner := []) (ok := fun _ => True) (okp := fun _ => True) ?hr ?hp (fun _ hk => hk) trivial (Below.refl _ _) (Nat.le_refl _) (by simp) ?_; (case hd => rfl); (case hg => rfl); (case hr => exact hrw); (case hp => exact (Reps.none _ _)); intro v217 w3 ho4 hb hg_ hnew_; clear hg_ hnew_; (first | rw [← Ny216.out] at ho4 | (simp only [Int.reduceToNat] at ho4; rw [← Ny216.out] at ho4)); have n0_ := am (Kd.R_lower ho4 (below_size blw)); have n1_ := am (blk_below (g := gb215) bkw hb); have n2_ := am (below_step blw hb); clear BK215; clear HB; revert n0_ n1_ n2_; intro HO218 BK215 HB; clear hb ho4)))
 go_loopg [3, 4] k (fun kq v3 v4 w' => ∃ (x3_1 : List ByteArray) (x4_1 : Int), v4 = .int .i64 x4_1 ∧ Aside0 (spec_l8Text.l0 kq x3_1 x4_1 a0_0 a0_1 a0_2 a0_3 l0_4 l0_5 l0_6 l0_7 = some r) ∧ Aside0 (kq ≤ k) ∧ Aside0 (Kd.R Kd.string 9 w' w.heap.size (fun _ => True) v3 x3_1) ∧ Aside0 (w'.heap[gb215]? = some (.cells #[.int .i64 a0_0, .string a0_1, .int .i64 a0_2, .int .i64 a0_3, (.slice A0_4 l0_4.length c0_4), (.slice A0_5 l0_5.length c0_5), (.slice A0_6 l0_6.length c0_6), (.slice A0_7 l0_7.length c0_7)] 36 (0, 0))) ∧ Aside0 (Below w.heap.size w w'))
 case atStart => exact ⟨(y216), (0), rfs, H', ⟨Nat.le_refl _⟩, ⟨by (with_reducible repeat (first | apply Kd.R_alloc | apply Kd.R_drewN | apply Kd.R_drew)); exact HO218.out⟩, ⟨bkw⟩, ⟨blw⟩⟩
 case round =>
  clear H'
  (try clear c1); (try clear p2)
  obtain ⟨x3_1, x4_1, rfl, HA, HK1, HO_3, BK215, HB⟩ := hrel
  cases gk with
  | zero => exact absurd HA.out (by simp [spec_l8Text.l0])
  | succ k1 =>
   have H := HA.out
   clear HA
   simp only [spec_l8Text.l0] at H
   by_cases c5 : x4_1 < (l0_7.length : Int)
   ·rw [if_pos c5] at H
    have c5b0 : decide (x4_1 < (l0_7.length : Int)) = true := decide_eq_true c5
    clear c5
    by_cases c6 : 0 ≤ x4_1
    case neg =>
     rw [if_neg c6] at H
     exact absurd H (by simp)
    rw [if_pos c6] at H
    have c6b0 : decide (0 ≤ x4_1) = true := decide_eq_true c6
    clear c6
    replace H := Option.bind_eq_some_iff.mp H
    obtain ⟨t220, A70, H⟩ := H
    replace H : (if a0_0 = 5 then (if x4_1 < (l0_6.length : Int) then (if (rdOf ByteArray.empty l0_6 x4_1).size + 1 ≤ 9223372036854775807 then (if (rdOf ByteArray.empty l0_6 x4_1).size + 1 + t220.size ≤ 9223372036854775807 then (if x3_1.length < 8796093022208 then (spec_l8Text.l0 k1 (x3_1 ++ [((rdOf ByteArray.empty l0_6 x4_1) ++ (⟨#[61]⟩ : ByteArray)) ++ t220]) (wrap64 (x4_1 + 1)) a0_0 a0_1 a0_2 a0_3 l0_4 l0_5 l0_6 l0_7) else (none)) else (none)) else (none)) else (none)) else (if x3_1.length < 8796093022208 then (spec_l8Text.l0 k1 (x3_1 ++ [t220]) (wrap64 (x4_1 + 1)) a0_0 a0_1 a0_2 a0_3 l0_4 l0_5 l0_6 l0_7) else (none))) = some r := H
    have A7 := am A70
    clear A70
    have HC8 := am H
    clear H
    obtain ⟨hcz9_0, hcz9_1, hcz9_2, hcz9_3, hcz9_4, hcz9_5, hcz9_6, hcz9_7⟩ := cls8 BK215.out
    obtain ⟨hfz9_0, hfz9_1, hfz9_2, hfz9_3, hfz9_4, hfz9_5, hfz9_6, hfz9_7⟩ := frz8 BK215.out
    have p219 : 0 ≤ (x4_1 : Int) := of_decide_eq_true asw
    have q219 : x4_1 < (l0_7.length : Int) := of_decide_eq_true asw
    obtain ⟨ad219, A219_4, c219_4, A219_5, c219_5, A219_6, c219_6, A219_7, c219_7, e219, hx219_0, hx219_1, hx219_2, hx219_3, hx219_4, hx219_5, hx219_6, hx219_7, hl219_4, hi219_4, hl219_5, hi219_5, hl219_6, hi219_6, hl219_7, hi219_7⟩ := at_T36 HR0_7.out x4_1 p219 q219
    cases e219
    replace hx219_0 := upw HB.out hx219_0
    replace hx219_1 := upw HB.out hx219_1
    replace hx219_2 := upw HB.out hx219_2
    replace hx219_3 := upw HB.out hx219_3
    replace hx219_4 := upw HB.out hx219_4
    replace hx219_5 := upw HB.out hx219_5
    replace hx219_6 := upw HB.out hx219_6
    replace hx219_7 := upw HB.out hx219_7
    have HR219_4 := am hi219_4
    have HC219_4 := am hl219_4
    clear hi219_4 hl219_4
    have HR219_5 := am hi219_5
    have HC219_5 := am hl219_5
    clear hi219_5 hl219_5
    have HR219_6 := am hi219_6
    have HC219_6 := am hl219_6
    clear hi219_6 hl219_6
    have HR219_7 := am hi219_7
    have HC219_7 := am hl219_7
    clear hi219_7 hl219_7
    replace p219 := eq_true p219
    replace q219 := eq_true q219
    go_upto_if 22 with (first | (go_at_call 13; (with_reducible refine (ih k1 (by have := HK1.out; omega) ((rd_T36 l0_7 x4_1).f0) ((rd_T36 l0_7 x4_1).f1) ((rd_T36 l0_7 x4_1).f2) ((rd_T36 l0_7 x4_1).f3.f0) _ _ ((rd_T36 l0_7 x4_1).f3.f1) _ _ ((rd_T36 l0_7 x4_1).f3.f2) _ _ ((rd_T36 l0_7 x4_1).f4) _ _ ((rd_T36 l0_7 x4_1).f5) t220 _ ?side1 ?side2 ?side3 ?side4 ?side5 ?side6 ?side7 ?side8 A7.out).mono ?_); (case side1 => have X_ := HR219_4; exact cbl); (case side2 => exact HC219_4.out); (case side3 => have X_ := HR219_5; exact cbl); (case side4 => exact HC219_5.out); (case side5 => have X_ := HR219_6; exact cbl); (case side6 => exact HC219_6.out); (case side7 => have X_ := HR219_7; exact cbl); (case side8 => exact HC219_7.out); rintro e w10 ⟨rfl, hb⟩; have n0_ := am (Kd.R_below (by (with_reducible repeat (first | apply Kd.R_alloc | apply Kd.R_drewN | apply Kd.R_drew)); exact HO_3.out) hb); have n1_ := am (blk_below (g := gb215) bkw hb); have n2_ := am (below_step blw hb); clear HO_3; clear BK215; clear HB; revert n0_ n1_ n2_; intro HO_3 BK215 HB; (try clear hb); (try clear hb2); (try clear hk); (try clear hi); obtain ⟨hcz11_0, hcz11_1, hcz11_2, hcz11_3, hcz11_4, hcz11_5, hcz11_6, hcz11_7⟩ := cls8 BK215.out; obtain ⟨hfz11_0, hfz11_1, hfz11_2, hfz11_3, hfz11_4, hfz11_5, hfz11_6, hfz11_7⟩ := frz8 BK215.out))
    repeat (go_quiet (first | (go_at_call 13; (with_reducible refine (ih k1 (by have := HK1.out; omega) ((rd_T36 l0_7 x4_1).f0) ((rd_T36 l0_7 x4_1).f1) ((rd_T36 l0_7 x4_1).f2) ((rd_T36 l0_7 x4_1).f3.f0) _ _ ((rd_T36 l0_7 x4_1).f3.f1) _ _ ((rd_T36 l0_7 x4_1).f3.f2) _ _ ((rd_T36 l0_7 x4_1).f4) _ _ ((rd_T36 l0_7 x4_1).f5) t220 _ ?side1 ?side2 ?side3 ?side4 ?side5 ?side6 ?side7 ?side8 A7.out).mono ?_); (case side1 => have X_ := HR219_4; exact cbl); (case side2 => exact HC219_4.out); (case side3 => have X_ := HR219_5; exact cbl); (case side4 => exact HC219_5.out); (case side5 => have X_ := HR219_6; exact cbl); (case side6 => exact HC219_6.out); (case side7 => have X_ := HR219_7; exact cbl); (case side8 => exact HC219_7.out); rintro e w10 ⟨rfl, hb⟩; have n0_ := am (Kd.R_below (by (with_reducible repeat (first | apply Kd.R_alloc | apply Kd.R_drewN | apply Kd.R_drew)); exact HO_3.out) hb); have n1_ := am (blk_below (g := gb215) bkw hb); have n2_ := am (below_step blw hb); clear HO_3; clear BK215; clear HB; revert n0_ n1_ n2_; intro HO_3 BK215 HB; (try clear hb); (try clear hb2); (try clear hk); (try clear hi); obtain ⟨hcz11_0, hcz11_1, hcz11_2, hcz11_3, hcz11_4, hcz11_5, hcz11_6, hcz11_7⟩ := cls8 BK215.out; obtain ⟨hfz11_0, hfz11_1, hfz11_2, hfz11_3, hfz11_4, hfz11_5, hfz11_6, hfz11_7⟩ := frz8 BK215.out)); try go_upto_if 22 with (first | (go_at_call 13; (with_reducible refine (ih k1 (by have := HK1.out; omega) ((rd_T36 l0_7 x4_1).f0) ((rd_T36 l0_7 x4_1).f1) ((rd_T36 l0_7 x4_1).f2) ((rd_T36 l0_7 x4_1).f3.f0) _ _ ((rd_T36 l0_7 x4_1).f3.f1) _ _ ((rd_T36 l0_7 x4_1).f3.f2) _ _ ((rd_T36 l0_7 x4_1).f4) _ _ ((rd_T36 l0_7 x4_1).f5) t220 _ ?side1 ?side2 ?side3 ?side4 ?side5 ?side6 ?side7 ?side8 A7.out).mono ?_); (case side1 => have X_ := HR219_4; exact cbl); (case side2 => exact HC219_4.out); (case side3 => have X_ := HR219_5; exact cbl); (case side4 => exact HC219_5.out); (case side5 => have X_ := HR219_6; exact cbl); (case side6 => exact HC219_6.out); (case side7 => have X_ := HR219_7; exact cbl); (case side8 => exact HC219_7.out); rintro e w10 ⟨rfl, hb⟩; have n0_ := am (Kd.R_below (by (with_reducible repeat (first | apply Kd.R_alloc | apply Kd.R_drewN | apply Kd.R_drew)); exact HO_3.out) hb); have n1_ := am (blk_below (g := gb215) bkw hb); have n2_ := am (below_step blw hb); clear HO_3; clear BK215; clear HB; revert n0_ n1_ n2_; intro HO_3 BK215 HB; (try clear hb); (try clear hb2); (try clear hk); (try clear hi); obtain ⟨hcz11_0, hcz11_1, hcz11_2, hcz11_3, hcz11_4, hcz11_5, hcz11_6, hcz11_7⟩ := cls8 BK215.out; obtain ⟨hfz11_0, hfz11_1, hfz11_2, hfz11_3, hfz11_4, hfz11_5, hfz11_6, hfz11_7⟩ := frz8 BK215.out)))
    have H := HC8.out
    clear HC8
    by_cases c12 : a0_0 = 5
    case neg =>
     rw [if_neg c12] at H
     have c12b0 : (a0_0 == 5) = false := beq_eq_false_iff_ne.mpr c12
     have c12b1 : (a0_0 != 5) = true := bne_iff_ne.mpr c12
     (first | rw [c12b0] | (simp only [i64_w, i32_w]; rw [c12b0]) | (rw [c12b1]; (try simp only [Bool.not_true, Bool.not_false])) | skip)
     by_cases c19 : x3_1.length < 8796093022208
     case neg =>
      rw [if_neg c19] at H
      exact absurd H (by simp)
     rw [if_pos c19] at H
     have LMc19 := am c19
     clear c19
     obtain ⟨y225, hy225⟩ : ∃ y_ : List ByteArray, y_ = (x3_1 ++ [t220]) := ⟨_, rfl⟩
     replace H : (spec_l8Text.l0 k1 y225 (wrap64 (x4_1 + 1)) a0_0 a0_1 a0_2 a0_3 l0_4 l0_5 l0_6 l0_7) = some r := by first | (rw [hy225]; with_reducible exact H) | (have H2_ := (Option.bind_some _ _).symm.trans H; rw [hy225]; with_reducible exact H2_) | (have H2_ := (Option.bind_some _ _).symm.trans H; with_reducible exact H2_) | with_reducible exact H | (rw [hy225]; exact H) | exact H
     have Ny225 := am hy225
     clear hy225
     have H' := am H
     clear H
     go_wp2_with (first | ((with_reducible refine gate_builtin (b := .append) (xs := #[.tmp 31, .tmp 33]) rfl ?_); at_builtin; refine Kd.R_append Kd.string (w0 := w) w.heap.size rfl (.tmp 31) (.tmp 33) 22 9 (.string ⟨#[]⟩) 16 rfl Tryd.underlying22 info9 rfl (by decide) (by omega) u3 x3_1 t220 [.string t220] (fun _ => True) (fun _ => False) rfl rfl ?aP (fun _ hk => hk.elim) ?aF ?aO ?aB ?aS ?aL ?_; (case aP => exact rfl); (case aB => exact blw); (case aF => exact (fun _ _ => trivial)); (case aO => exact (by (with_reducible repeat (first | apply Kd.R_alloc | apply Kd.R_drewN | apply Kd.R_drew)); exact HO_3.out)); (case aS => exact (below_size blw)); (case aL => have := LMc19.out; omega); intro v226 w20 ho hb hg hat; rw [← Ny225.out] at ho; have n0_ := am (blk_grown (g := gb215) (o := .cells #[.int .i64 a0_0, .string a0_1, .int .i64 a0_2, .int .i64 a0_3, .slice A0_4 l0_4.length c0_4, .slice A0_5 l0_5.length c0_5, .slice A0_6 l0_6.length c0_6, .slice (some ad219) l0_7.length c0_7] 36 (0, 0)) bkw hg (Kd.R_ne HO_3.out BK215.out (by decide))); have n1_ := am (hb); have n2_ := am (ho); clear BK215; clear HB; clear HO_3; revert n0_ n1_ n2_; intro BK215 HB HO227; clear ho hb hg hat))
     repeat (go_quiet (first | ((with_reducible refine gate_builtin (b := .append) (xs := #[.tmp 31, .tmp 33]) rfl ?_); at_builtin; refine Kd.R_append Kd.string (w0 := w) w.heap.size rfl (.tmp 31) (.tmp 33) 22 9 (.string ⟨#[]⟩) 16 rfl Tryd.underlying22 info9 rfl (by decide) (by omega) u3 x3_1 t220 [.string t220] (fun _ => True) (fun _ => False) rfl rfl ?aP (fun _ hk => hk.elim) ?aF ?aO ?aB ?aS ?aL ?_; (case aP => exact rfl); (case aB => exact blw); (case aF => exact (fun _ _ => trivial)); (case aO => exact (by (with_reducible repeat (first | apply Kd.R_alloc | apply Kd.R_drewN | apply Kd.R_drew)); exact HO_3.out)); (case aS => exact (below_size blw)); (case aL => have := LMc19.out; omega); intro v226 w20 ho hb hg hat; rw [← Ny225.out] at ho; have n0_ := am (blk_grown (g := gb215) (o := .cells #[.int .i64 a0_0, .string a0_1, .int .i64 a0_2, .int .i64 a0_3, .slice A0_4 l0_4.length c0_4, .slice A0_5 l0_5.length c0_5, .slice A0_6 l0_6.length c0_6, .slice (some ad219) l0_7.length c0_7] 36 (0, 0)) bkw hg (Kd.R_ne HO_3.out BK215.out (by decide))); have n1_ := am (hb); have n2_ := am (ho); clear BK215; clear HB; clear HO_3; revert n0_ n1_ n2_; intro BK215 HB HO227; clear ho hb hg hat)); try go_wp2_with (first | ((with_reducible refine gate_builtin (b := .append) (xs := #[.tmp 31, .tmp 33]) rfl ?_); at_builtin; refine Kd.R_append Kd.string (w0 := w) w.heap.size rfl (.tmp 31) (.tmp 33) 22 9 (.string ⟨#[]⟩) 16 rfl Tryd.underlying22 info9 rfl (by decide) (by omega) u3 x3_1 t220 [.string t220] (fun _ => True) (fun _ => False) rfl rfl ?aP (fun _ hk => hk.elim) ?aF ?aO ?aB ?aS ?aL ?_; (case aP => exact rfl); (case aB => exact blw); (case aF => exact (fun _ _ => trivial)); (case aO => exact (by (with_reducible repeat (first | apply Kd.R_alloc | apply Kd.R_drewN | apply Kd.R_drew)); exact HO_3.out)); (case aS => exact (below_size blw)); (case aL => have := LMc19.out; omega); intro v226 w20 ho hb hg hat; rw [← Ny225.out] at ho; have n0_ := am (blk_grown (g := gb215) (o := .cells #[.int .i64 a0_0, .string a0_1, .int .i64 a0_2, .int .i64 a0_3, .slice A0_4 l0_4.length c0_4, .slice A0_5 l0_5.length c0_5, .slice A0_6 l0_6.length c0_6, .slice (some ad219) l0_7.length c0_7] 36 (0, 0)) bkw hg (Kd.R_ne HO_3.out BK215.out (by decide))); have n1_ := am (hb); have n2_ := am (ho); clear BK215; clear HB; clear HO_3; revert n0_ n1_ n2_; intro BK215 HB HO227; clear ho hb hg hat)))
     go_roundg k1
     case measure => have := HK1.out; omega
     case rel => exact ⟨(y225), (wrap64 (x4_1 + 1)), rfs, H', ⟨by have := HK1.out; omega⟩, ⟨by (with_reducible repeat (first | apply Kd.R_alloc | apply Kd.R_drewN | apply Kd.R_drew)); exact HO227.out⟩, ⟨bkw⟩, ⟨blw⟩⟩
    rw [if_pos c12] at H
    have c12b0 : (a0_0 == 5) = true := beq_iff_eq.mpr c12
    have c12b1 : (a0_0 != 5) = false := bne_eq_false_iff_eq.mpr c12
    clear c12
    (first | rw [c12b0] | (simp only [i64_w, i32_w]; rw [c12b0]) | (rw [c12b1]; (try simp only [Bool.not_true, Bool.not_false])) | skip)
    by_cases c13 : x4_1 < (l0_6.length : Int)
    case neg =>
     rw [if_neg c13] at H
     exact absurd H (by simp)
    rw [if_pos c13] at H
    have c13b0 : decide (x4_1 < (l0_6.length : Int)) = true := decide_eq_true c13
    clear c13
    by_cases c14 : (rdOf ByteArray.empty l0_6 x4_1).size + 1 ≤ 9223372036854775807
    case neg =>
     rw [if_neg c14] at H
     exact absurd H (by simp)
    rw [if_pos c14] at H
    have c14b0 := eq_true c14
    have c14b1 : decide ((rdOf ByteArray.empty l0_6 x4_1).size + 1 ≤ 9223372036854775807) = true := decide_eq_true c14
    try have c14b2 : (9223372036854775807 < (rdOf ByteArray.empty l0_6 x4_1).size + 1) = False := eq_false (Nat.not_lt.2 c14)
    by_cases c15 : (rdOf ByteArray.empty l0_6 x4_1).size + 1 + t220.size ≤ 9223372036854775807
    case neg =>
     rw [if_neg c15] at H
     exact absurd H (by simp)
    rw [if_pos c15] at H
    have c15b0 := eq_true c15
    have c15b1 : decide ((rdOf ByteArray.empty l0_6 x4_1).size + 1 + t220.size ≤ 9223372036854775807) = true := decide_eq_true c15
    try have c15b2 : (9223372036854775807 < (rdOf ByteArray.empty l0_6 x4_1).size + 1 + t220.size) = False := eq_false (Nat.not_lt.2 c15)
    by_cases c16 : x3_1.length < 8796093022208
    case neg =>
     rw [if_neg c16] at H
     exact absurd H (by simp)
    rw [if_pos c16] at H
    have LMc16 := am c16
    clear c16
    obtain ⟨y222, hy222⟩ : ∃ y_ : List ByteArray, y_ = (x3_1 ++ [((rdOf ByteArray.empty l0_6 x4_1) ++ (⟨#[61]⟩ : ByteArray)) ++ t220]) := ⟨_, rfl⟩
    replace H : (spec_l8Text.l0 k1 y222 (wrap64 (x4_1 + 1)) a0_0 a0_1 a0_2 a0_3 l0_4 l0_5 l0_6 l0_7) = some r := by first | (rw [hy222]; with_reducible exact H) | (have H2_ := (Option.bind_some _ _).symm.trans H; rw [hy222]; with_reducible exact H2_) | (have H2_ := (Option.bind_some _ _).symm.trans H; with_reducible exact H2_) | with_reducible exact H | (rw [hy222]; exact H) | exact H
    have Ny222 := am hy222
    clear hy222
    have H' := am H
    clear H
    obtain ⟨hcz17_0, hcz17_1, hcz17_2, hcz17_3, hcz17_4, hcz17_5, hcz17_6, hcz17_7⟩ := cls8 BK215.out
    obtain ⟨hfz17_0, hfz17_1, hfz17_2, hfz17_3, hfz17_4, hfz17_5, hfz17_6, hfz17_7⟩ := frz8 BK215.out
    have p221 : 0 ≤ (x4_1 : Int) := of_decide_eq_true asw
    have q221 : x4_1 < (l0_6.length : Int) := of_decide_eq_true asw
    obtain ⟨ad221, e221, hx221_0⟩ := Kd.at_string HR0_6.out x4_1 p221 q221
    cases e221
    replace hx221_0 := upw HB.out hx221_0
    replace p221 := eq_true p221
    replace q221 := eq_true q221
    go_wp2_with (first | ((with_reducible refine gate_builtin (b := .append) (xs := #[.tmp 31, .tmp 33]) rfl ?_); at_builtin; refine Kd.R_append Kd.string (w0 := w) w.heap.size rfl (.tmp 31) (.tmp 33) 22 9 (.string ⟨#[]⟩) 16 rfl Tryd.underlying22 info9 rfl (by decide) (by omega) u3 x3_1 (((rdOf ByteArray.empty l0_6 x4_1) ++ (⟨#[61]⟩ : ByteArray)) ++ t220) [.string (((rdOf ByteArray.empty l0_6 x4_1) ++ (⟨#[61]⟩ : ByteArray)) ++ t220)] (fun _ => True) (fun _ => False) rfl rfl ?aP (fun _ hk => hk.elim) ?aF ?aO ?aB ?aS ?aL ?_; (case aP => exact rfl); (case aB => exact blw); (case aF => exact (fun _ _ => trivial)); (case aO => exact (by (with_reducible repeat (first | apply Kd.R_alloc | apply Kd.R_drewN | apply Kd.R_drew)); exact HO_3.out)); (case aS => exact (below_size blw)); (case aL => have := LMc16.out; omega); intro v223 w18 ho hb hg hat; rw [← Ny222.out] at ho; have n0_ := am (blk_grown (g := gb215) (o := .cells #[.int .i64 a0_0, .string a0_1, .int .i64 a0_2, .int .i64 a0_3, .slice A0_4 l0_4.length c0_4, .slice A0_5 l0_5.length c0_5, .slice (some ad221) l0_6.length c0_6, .slice (some ad219) l0_7.length c0_7] 36 (0, 0)) bkw hg (Kd.R_ne HO_3.out BK215.out (by decide))); have n1_ := am (hb); have n2_ := am (ho); clear BK215; clear HB; clear HO_3; revert n0_ n1_ n2_; intro BK215 HB HO224; clear ho hb hg hat))
    repeat (go_quiet (first | ((with_reducible refine gate_builtin (b := .append) (xs := #[.tmp 31, .tmp 33]) rfl ?_); at_builtin; refine Kd.R_append Kd.string (w0 := w) w.heap.size rfl (.tmp 31) (.tmp 33) 22 9 (.string ⟨#[]⟩) 16 rfl Tryd.underlying22 info9 rfl (by decide) (by omega) u3 x3_1 (((rdOf ByteArray.empty l0_6 x4_1) ++ (⟨#[61]⟩ : ByteArray)) ++ t220) [.string (((rdOf ByteArray.empty l0_6 x4_1) ++ (⟨#[61]⟩ : ByteArray)) ++ t220)] (fun _ => True) (fun _ => False) rfl rfl ?aP (fun _ hk => hk.elim) ?aF ?aO ?aB ?aS ?aL ?_; (case aP => exact rfl); (case aB => exact blw); (case aF => exact (fun _ _ => trivial)); (case aO => exact (by (with_reducible repeat (first | apply Kd.R_alloc | apply Kd.R_drewN | apply Kd.R_drew)); exact HO_3.out)); (case aS => exact (below_size blw)); (case aL => have := LMc16.out; omega); intro v223 w18 ho hb hg hat; rw [← Ny222.out] at ho; have n0_ := am (blk_grown (g := gb215) (o := .cells #[.int .i64 a0_0, .string a0_1, .int .i64 a0_2, .int .i64 a0_3, .slice A0_4 l0_4.length c0_4, .slice A0_5 l0_5.length c0_5, .slice (some ad221) l0_6.length c0_6, .slice (some ad219) l0_7.length c0_7] 36 (0, 0)) bkw hg (Kd.R_ne HO_3.out BK215.out (by decide))); have n1_ := am (hb); have n2_ := am (ho); clear BK215; clear HB; clear HO_3; revert n0_ n1_ n2_; intro BK215 HB HO224; clear ho hb hg hat)); try go_wp2_with (first | ((with_reducible refine gate_builtin (b := .append) (xs := #[.tmp 31, .tmp 33]) rfl ?_); at_builtin; refine Kd.R_append Kd.string (w0 := w) w.heap.size rfl (.tmp 31) (.tmp 33) 22 9 (.string ⟨#[]⟩) 16 rfl Tryd.underlying22 info9 rfl (by decide) (by omega) u3 x3_1 (((rdOf ByteArray.empty l0_6 x4_1) ++ (⟨#[61]⟩ : ByteArray)) ++ t220) [.string (((rdOf ByteArray.empty l0_6 x4_1) ++ (⟨#[61]⟩ : ByteArray)) ++ t220)] (fun _ => True) (fun _ => False) rfl rfl ?aP (fun _ hk => hk.elim) ?aF ?aO ?aB ?aS ?aL ?_; (case aP => exact rfl); (case aB => exact blw); (case aF => exact (fun _ _ => trivial)); (case aO => exact (by (with_reducible repeat (first | apply Kd.R_alloc | apply Kd.R_drewN | apply Kd.R_drew)); exact HO_3.out)); (case aS => exact (below_size blw)); (case aL => have := LMc16.out; omega); intro v223 w18 ho hb hg hat; rw [← Ny222.out] at ho; have n0_ := am (blk_grown (g := gb215) (o := .cells #[.int .i64 a0_0, .string a0_1, .int .i64 a0_2, .int .i64 a0_3, .slice A0_4 l0_4.length c0_4, .slice A0_5 l0_5.length c0_5, .slice (some ad221) l0_6.length c0_6, .slice (some ad219) l0_7.length c0_7] 36 (0, 0)) bkw hg (Kd.R_ne HO_3.out BK215.out (by decide))); have n1_ := am (hb); have n2_ := am (ho); clear BK215; clear HB; clear HO_3; revert n0_ n1_ n2_; intro BK215 HB HO224; clear ho hb hg hat)))
    go_roundg k1
    case measure => have := HK1.out; omega
    case rel => exact ⟨(y222), (wrap64 (x4_1 + 1)), rfs, H', ⟨by have := HK1.out; omega⟩, ⟨by (with_reducible repeat (first | apply Kd.R_alloc | apply Kd.R_drewN | apply Kd.R_drew)); exact HO224.out⟩, ⟨bkw⟩, ⟨blw⟩⟩
   rw [if_neg c5] at H
   have c5b0 : decide (x4_1 < (l0_7.length : Int)) = false := decide_eq_false c5
   clear c5
   by_cases c21 : a0_0 = 1
   ·rw [if_pos c21] at H
    have c21b0 : (a0_0 == 1) = true := beq_iff_eq.mpr c21
    have c21b1 : (a0_0 != 1) = false := bne_eq_false_iff_eq.mpr c21
    clear c21
    obtain rfl := Option.some.inj H
    obtain ⟨hcz22_0, hcz22_1, hcz22_2, hcz22_3, hcz22_4, hcz22_5, hcz22_6, hcz22_7⟩ := cls8 BK215.out
    obtain ⟨hfz22_0, hfz22_1, hfz22_2, hfz22_3, hfz22_4, hfz22_5, hfz22_6, hfz22_7⟩ := frz8 BK215.out
    go_wp2
    repeat (go_quiet (fail); try go_wp2)
    go_ret
    exact ⟨rfw, blw⟩
   rw [if_neg c21] at H
   have c21b0 : (a0_0 == 1) = false := beq_eq_false_iff_ne.mpr c21
   have c21b1 : (a0_0 != 1) = true := bne_iff_ne.mpr c21
   by_cases c23 : a0_0 = 2
   ·rw [if_pos c23] at H
    have c23b0 : (a0_0 == 2) = true := beq_iff_eq.mpr c23
    have c23b1 : (a0_0 != 2) = false := bne_eq_false_iff_eq.mpr c23
    clear c23
    replace H := Option.bind_eq_some_iff.mp H
    obtain ⟨t228, A240, H⟩ := H
    replace H : (some t228) = some r := H
    have A24 := am A240
    clear A240
    obtain rfl := Option.some.inj H
    obtain ⟨hcz25_0, hcz25_1, hcz25_2, hcz25_3, hcz25_4, hcz25_5, hcz25_6, hcz25_7⟩ := cls8 BK215.out
    obtain ⟨hfz25_0, hfz25_1, hfz25_2, hfz25_3, hfz25_4, hfz25_5, hfz25_6, hfz25_7⟩ := frz8 BK215.out
    go_wp2_with (first | (go_at_call 26; (with_reducible refine (spec_FormatInt.calls k1 a0_2 t228 _ A24.out).mono ?_); rintro e w26 ⟨rfl, hb⟩; have n0_ := am (Kd.R_below (by (with_reducible repeat (first | apply Kd.R_alloc | apply Kd.R_drewN | apply Kd.R_drew)); exact HO_3.out) hb); have n1_ := am (blk_below (g := gb215) bkw hb); have n2_ := am (below_step blw hb); clear HO_3; clear BK215; clear HB; revert n0_ n1_ n2_; intro HO_3 BK215 HB; (try clear hb); (try clear hb2); (try clear hk); (try clear hi)))
    repeat (go_quiet (first | (go_at_call 26; (with_reducible refine (spec_FormatInt.calls k1 a0_2 t228 _ A24.out).mono ?_); rintro e w26 ⟨rfl, hb⟩; have n0_ := am (Kd.R_below (by (with_reducible repeat (first | apply Kd.R_alloc | apply Kd.R_drewN | apply Kd.R_drew)); exact HO_3.out) hb); have n1_ := am (blk_below (g := gb215) bkw hb); have n2_ := am (below_step blw hb); clear HO_3; clear BK215; clear HB; revert n0_ n1_ n2_; intro HO_3 BK215 HB; (try clear hb); (try clear hb2); (try clear hk); (try clear hi))); try go_wp2_with (first | (go_at_call 26; (with_reducible refine (spec_FormatInt.calls k1 a0_2 t228 _ A24.out).mono ?_); rintro e w26 ⟨rfl, hb⟩; have n0_ := am (Kd.R_below (by (with_reducible repeat (first | apply Kd.R_alloc | apply Kd.R_drewN | apply Kd.R_drew)); exact HO_3.out) hb); have n1_ := am (blk_below (g := gb215) bkw hb); have n2_ := am (below_step blw hb); clear HO_3; clear BK215; clear HB; revert n0_ n1_ n2_; intro HO_3 BK215 HB; (try clear hb); (try clear hb2); (try clear hk); (try clear hi))))
    go_ret
    exact ⟨rfw, blw⟩
   rw [if_neg c23] at H
   have c23b0 : (a0_0 == 2) = false := beq_eq_false_iff_ne.mpr c23
   have c23b1 : (a0_0 != 2) = true := bne_iff_ne.mpr c23
   by_cases c27 : a0_0 = 3
   ·rw [if_pos c27] at H
    have c27b0 : (a0_0 == 3) = true := beq_iff_eq.mpr c27
    have c27b1 : (a0_0 != 3) = false := bne_eq_false_iff_eq.mpr c27
    clear c27
    by_cases c28 : 0 ≤ a0_2
    case neg =>
     rw [if_neg c28] at H
     exact absurd H (by simp)
    rw [if_pos c28] at H
    have c28b0 := eq_true c28
    have c28b1 : decide (0 ≤ a0_2) = true := decide_eq_true c28
    clear c28
    by_cases c29 : a0_2 ≤ (wrap64 (a0_2 + 1))
    case neg =>
     rw [if_neg c29] at H
     exact absurd H (by simp)
    rw [if_pos c29] at H
    have c29b0 := eq_true c29
    have c29b1 : decide (a0_2 ≤ (wrap64 (a0_2 + 1))) = true := decide_eq_true c29
    by_cases c30 : (wrap64 (a0_2 + 1)) ≤ 2
    case neg =>
     rw [if_neg c30] at H
     exact absurd H (by simp)
    rw [if_pos c30] at H
    have c30b0 := eq_true c30
    have c30b1 : decide ((wrap64 (a0_2 + 1)) ≤ 2) = true := decide_eq_true c30
    by_cases c31 : 1 + ((⟨#[102, 116]⟩ : ByteArray).extract (a0_2 : Int).toNat ((wrap64 (a0_2 + 1)) : Int).toNat).size ≤ 9223372036854775807
    case neg =>
     rw [if_neg c31] at H
     exact absurd H (by simp)
    rw [if_pos c31] at H
    have c31b0 := eq_true c31
    have c31b1 : decide (1 + ((⟨#[102, 116]⟩ : ByteArray).extract (a0_2 : Int).toNat ((wrap64 (a0_2 + 1)) : Int).toNat).size ≤ 9223372036854775807) = true := decide_eq_true c31
    try have c31b2 : (9223372036854775807 < 1 + ((⟨#[102, 116]⟩ : ByteArray).extract (a0_2 : Int).toNat ((wrap64 (a0_2 + 1)) : Int).toNat).size) = False := eq_false (Nat.not_lt.2 c31)
    obtain rfl := Option.some.inj H
    obtain ⟨hcz32_0, hcz32_1, hcz32_2, hcz32_3, hcz32_4, hcz32_5, hcz32_6, hcz32_7⟩ := cls8 BK215.out
    obtain ⟨hfz32_0, hfz32_1, hfz32_2, hfz32_3, hfz32_4, hfz32_5, hfz32_6, hfz32_7⟩ := frz8 BK215.out
    go_wp2
    repeat (go_quiet (fail); try go_wp2)
    go_ret
    exact ⟨rfw, blw⟩
   rw [if_neg c27] at H
   have c27b0 : (a0_0 == 3) = false := beq_eq_false_iff_ne.mpr c27
   have c27b1 : (a0_0 != 3) = true := bne_iff_ne.mpr c27
   by_cases c33 : a0_0 = 12
   ·rw [if_pos c33] at H
    have c33b0 : (a0_0 == 12) = true := beq_iff_eq.mpr c33
    have c33b1 : (a0_0 != 12) = false := bne_eq_false_iff_eq.mpr c33
    clear c33
    by_cases c34 : 1 + a0_1.size ≤ 9223372036854775807
    case neg =>
     rw [if_neg c34] at H
     exact absurd H (by simp)
    rw [if_pos c34] at H
    have c34b0 := eq_true c34
    have c34b1 : decide (1 + a0_1.size ≤ 9223372036854775807) = true := decide_eq_true c34
    try have c34b2 : (9223372036854775807 < 1 + a0_1.size) = False := eq_false (Nat.not_lt.2 c34)
    obtain rfl := Option.some.inj H
    obtain ⟨hcz35_0, hcz35_1, hcz35_2, hcz35_3, hcz35_4, hcz35_5, hcz35_6, hcz35_7⟩ := cls8 BK215.out
    obtain ⟨hfz35_0, hfz35_1, hfz35_2, hfz35_3, hfz35_4, hfz35_5, hfz35_6, hfz35_7⟩ := frz8 BK215.out
    go_wp2
    repeat (go_quiet (fail); try go_wp2)
    go_ret
    exact ⟨rfw, blw⟩
   rw [if_neg c33] at H
   have c33b0 : (a0_0 == 12) = false := beq_eq_false_iff_ne.mpr c33
   have c33b1 : (a0_0 != 12) = true := bne_iff_ne.mpr c33
   by_cases c36 : a0_0 = 4
   ·rw [if_pos c36] at H
    have c36b0 : (a0_0 == 4) = true := beq_iff_eq.mpr c36
    have c36b1 : (a0_0 != 4) = false := bne_eq_false_iff_eq.mpr c36
    clear c36
    by_cases c37 : (x3_1.length : Int) = 1
    ·rw [if_pos c37] at H
     have c37b0 : ((x3_1.length : Int) == 1) = true := beq_iff_eq.mpr c37
     have c37b1 : ((x3_1.length : Int) != 1) = false := bne_eq_false_iff_eq.mpr c37
     clear c37
     by_cases c38 : 0 < (x3_1.length : Int)
     case neg =>
      rw [if_neg c38] at H
      exact absurd H (by simp)
     rw [if_pos c38] at H
     have c38b0 : decide (0 < (x3_1.length : Int)) = true := decide_eq_true c38
     have c38b1 : decide (0 < x3_1.length) = true := decide_eq_true (by omega)
     clear c38
     by_cases c39 : 2 + (rdOf ByteArray.empty x3_1 0).size ≤ 9223372036854775807
     case neg =>
      rw [if_neg c39] at H
      exact absurd H (by simp)
     rw [if_pos c39] at H
     have c39b0 := eq_true c39
     have c39b1 : decide (2 + (rdOf ByteArray.empty x3_1 0).size ≤ 9223372036854775807) = true := decide_eq_true c39
     try have c39b2 : (9223372036854775807 < 2 + (rdOf ByteArray.empty x3_1 0).size) = False := eq_false (Nat.not_lt.2 c39)
     by_cases c40 : 2 + (rdOf ByteArray.empty x3_1 0).size + 1 ≤ 9223372036854775807
     case neg =>
      rw [if_neg c40] at H
      exact absurd H (by simp)
     rw [if_pos c40] at H
     have c40b0 := eq_true c40
     have c40b1 : decide (2 + (rdOf ByteArray.empty x3_1 0).size + 1 ≤ 9223372036854775807) = true := decide_eq_true c40
     try have c40b2 : (9223372036854775807 < 2 + (rdOf ByteArray.empty x3_1 0).size + 1) = False := eq_false (Nat.not_lt.2 c40)
     obtain rfl := Option.some.inj H
     obtain ⟨hcz41_0, hcz41_1, hcz41_2, hcz41_3, hcz41_4, hcz41_5, hcz41_6, hcz41_7⟩ := cls8 BK215.out
     obtain ⟨hfz41_0, hfz41_1, hfz41_2, hfz41_3, hfz41_4, hfz41_5, hfz41_6, hfz41_7⟩ := frz8 BK215.out
     obtain ⟨Ao42, co42, eo42⟩ := Kd.R_slice HO_3.out
     subst eo42
     have p229 : 0 ≤ (0 : Int) := (by omega)
     have q229 : 0 < (x3_1.length : Int) := of_decide_eq_true asw
     obtain ⟨ad229, e229, hx229_0⟩ := Kd.at_string (Kd.R_reads' HO_3.out).2.2 0 p229 q229
     cases e229
     have qi229 : (0 < x3_1.length) = True := eq_true (by omega)
     (try rw [show ((0 : Int)).toNat = 0 from rfl] at hx229_0)
     (try rw [Addr.add_zero'] at hx229_0)
     replace p229 := eq_true p229
     replace q229 := eq_true q229
     go_wp2
     repeat (go_quiet (fail); try go_wp2)
     go_ret
     exact ⟨rfw, blw⟩
    rw [if_neg c37] at H
    have c37b0 : ((x3_1.length : Int) == 1) = false := beq_eq_false_iff_ne.mpr c37
    have c37b1 : ((x3_1.length : Int) != 1) = true := bne_iff_ne.mpr c37
    by_cases c43 : 0 < (x3_1.length : Int)
    case neg =>
     rw [if_neg c43] at H
     exact absurd H (by simp)
    rw [if_pos c43] at H
    have c43b0 : decide (0 < (x3_1.length : Int)) = true := decide_eq_true c43
    have c43b1 : decide (0 < x3_1.length) = true := decide_eq_true (by omega)
    clear c43
    by_cases c44 : 1 + (rdOf ByteArray.empty x3_1 0).size ≤ 9223372036854775807
    case neg =>
     rw [if_neg c44] at H
     exact absurd H (by simp)
    rw [if_pos c44] at H
    have c44b0 := eq_true c44
    have c44b1 : decide (1 + (rdOf ByteArray.empty x3_1 0).size ≤ 9223372036854775807) = true := decide_eq_true c44
    try have c44b2 : (9223372036854775807 < 1 + (rdOf ByteArray.empty x3_1 0).size) = False := eq_false (Nat.not_lt.2 c44)
    by_cases c45 : 1 + (rdOf ByteArray.empty x3_1 0).size + a0_1.size ≤ 9223372036854775807
    case neg =>
     rw [if_neg c45] at H
     exact absurd H (by simp)
    rw [if_pos c45] at H
    have c45b0 := eq_true c45
    have c45b1 : decide (1 + (rdOf ByteArray.empty x3_1 0).size + a0_1.size ≤ 9223372036854775807) = true := decide_eq_true c45
    try have c45b2 : (9223372036854775807 < 1 + (rdOf ByteArray.empty x3_1 0).size + a0_1.size) = False := eq_false (Nat.not_lt.2 c45)
    by_cases c46 : 1 < (x3_1.length : Int)
    case neg =>
     rw [if_neg c46] at H
     exact absurd H (by simp)
    rw [if_pos c46] at H
    have c46b0 : decide (1 < (x3_1.length : Int)) = true := decide_eq_true c46
    have c46b1 : decide (1 < x3_1.length) = true := decide_eq_true (by omega)
    clear c46
    by_cases c47 : 1 + (rdOf ByteArray.empty x3_1 0).size + a0_1.size + (rdOf ByteArray.empty x3_1 1).size ≤ 9223372036854775807
    case neg =>
     rw [if_neg c47] at H
     exact absurd H (by simp)
    rw [if_pos c47] at H
    have c47b0 := eq_true c47
    have c47b1 : decide (1 + (rdOf ByteArray.empty x3_1 0).size + a0_1.size + (rdOf ByteArray.empty x3_1 1).size ≤ 9223372036854775807) = true := decide_eq_true c47
    try have c47b2 : (9223372036854775807 < 1 + (rdOf ByteArray.empty x3_1 0).size + a0_1.size + (rdOf ByteArray.empty x3_1 1).size) = False := eq_false (Nat.not_lt.2 c47)
    by_cases c48 : 1 + (rdOf ByteArray.empty x3_1 0).size + a0_1.size + (rdOf ByteArray.empty x3_1 1).size + 1 ≤ 9223372036854775807
    case neg =>
     rw [if_neg c48] at H
     exact absurd H (by simp)
    rw [if_pos c48] at H
    have c48b0 := eq_true c48
    have c48b1 : decide (1 + (rdOf ByteArray.empty x3_1 0).size + a0_1.size + (rdOf ByteArray.empty x3_1 1).size + 1 ≤ 9223372036854775807) = true := decide_eq_true c48
    try have c48b2 : (9223372036854775807 < 1 + (rdOf ByteArray.empty x3_1 0).size + a0_1.size + (rdOf ByteArray.empty x3_1 1).size + 1) = False := eq_false (Nat.not_lt.2 c48)
    obtain rfl := Option.some.inj H
    obtain ⟨hcz49_0, hcz49_1, hcz49_2, hcz49_3, hcz49_4, hcz49_5, hcz49_6, hcz49_7⟩ := cls8 BK215.out
    obtain ⟨hfz49_0, hfz49_1, hfz49_2, hfz49_3, hfz49_4, hfz49_5, hfz49_6, hfz49_7⟩ := frz8 BK215.out
    obtain ⟨Ao50, co50, eo50⟩ := Kd.R_slice HO_3.out
    subst eo50
    have p230 : 0 ≤ (0 : Int) := (by omega)
    have q230 : 0 < (x3_1.length : Int) := of_decide_eq_true asw
    obtain ⟨ad230, e230, hx230_0⟩ := Kd.at_string (Kd.R_reads' HO_3.out).2.2 0 p230 q230
    cases e230
    have qi230 : (0 < x3_1.length) = True := eq_true (by omega)
    (try rw [show ((0 : Int)).toNat = 0 from rfl] at hx230_0)
    (try rw [Addr.add_zero'] at hx230_0)
    replace p230 := eq_true p230
    replace q230 := eq_true q230
    have p231 : 0 ≤ (1 : Int) := (by omega)
    have q231 : 1 < (x3_1.length : Int) := of_decide_eq_true asw
    obtain ⟨ad231, e231, hx231_0⟩ := Kd.at_string (Kd.R_reads' HO_3.out).2.2 1 p231 q231
    obtain rfl : ad230 = ad231 := (by injection e231)
    (try simp only [show (1 : Int).toNat = 1 from rfl, Nat.reduceMul, Nat.reduceEqDiff, Go.Addr.add, ↓reduceIte] at hx231_0)
    have qi231 : (1 < x3_1.length) = True := eq_true (by omega)
    (try rw [show ((1 : Int)).toNat = 1 from rfl] at hx231_0)
    replace p231 := eq_true p231
    replace q231 := eq_true q231
    go_wp2
    repeat (go_quiet (fail); try go_wp2)
    go_ret
    exact ⟨rfw, blw⟩
   rw [if_neg c36] at H
   have c36b0 : (a0_0 == 4) = false := beq_eq_false_iff_ne.mpr c36
   have c36b1 : (a0_0 != 4) = true := bne_iff_ne.mpr c36
   by_cases c51 : a0_0 = 5
   ·rw [if_pos c51] at H
    have c51b0 : (a0_0 == 5) = true := beq_iff_eq.mpr c51
    have c51b1 : (a0_0 != 5) = false := bne_eq_false_iff_eq.mpr c51
    clear c51
    replace H := Option.bind_eq_some_iff.mp H
    obtain ⟨t232, A520, H⟩ := H
    replace H : (if 1 + t232.size ≤ 9223372036854775807 then (if 1 + t232.size + 1 ≤ 9223372036854775807 then (some (((⟨#[123]⟩ : ByteArray) ++ t232) ++ (⟨#[125]⟩ : ByteArray))) else (none)) else (none)) = some r := H
    have A52 := am A520
    clear A520
    by_cases c53 : 1 + t232.size ≤ 9223372036854775807
    case neg =>
     rw [if_neg c53] at H
     exact absurd H (by simp)
    rw [if_pos c53] at H
    have c53b0 := eq_true c53
    have c53b1 : decide (1 + t232.size ≤ 9223372036854775807) = true := decide_eq_true c53
    try have c53b2 : (9223372036854775807 < 1 + t232.size) = False := eq_false (Nat.not_lt.2 c53)
    by_cases c54 : 1 + t232.size + 1 ≤ 9223372036854775807
    case neg =>
     rw [if_neg c54] at H
     exact absurd H (by simp)
    rw [if_pos c54] at H
    have c54b0 := eq_true c54
    have c54b1 : decide (1 + t232.size + 1 ≤ 9223372036854775807) = true := decide_eq_true c54
    try have c54b2 : (9223372036854775807 < 1 + t232.size + 1) = False := eq_false (Nat.not_lt.2 c54)
    obtain rfl := Option.some.inj H
    obtain ⟨hcz55_0, hcz55_1, hcz55_2, hcz55_3, hcz55_4, hcz55_5, hcz55_6, hcz55_7⟩ := cls8 BK215.out
    obtain ⟨hfz55_0, hfz55_1, hfz55_2, hfz55_3, hfz55_4, hfz55_5, hfz55_6, hfz55_7⟩ := frz8 BK215.out
    obtain ⟨Ao56, co56, eo56⟩ := Kd.R_slice HO_3.out
    subst eo56
    go_wp2_with (first | (go_at_call 27; (with_reducible refine (spec_Join.calls k1 _ _ x3_1 (⟨#[44]⟩ : ByteArray) t232 _ ?side1 ?side2 A52.out).mono ?_); (case side1 => repeat (first | exact (Kd.R_reads' HO_3.out).2.2 | (with_reducible refine Kd.C_alloc ?_ _) | (with_reducible refine Kd.C_drewN ?_ _) | (with_reducible refine Kd.C_drew ?_))); (case side2 => exact (Kd.R_reads' HO_3.out).2.1); rintro e w57 ⟨rfl, hb⟩; have n0_ := am (Kd.R_below (by (with_reducible repeat (first | apply Kd.R_alloc | apply Kd.R_drewN | apply Kd.R_drew)); exact HO_3.out) hb); have n1_ := am (blk_below (g := gb215) bkw hb); have n2_ := am (below_step blw hb); clear HO_3; clear BK215; clear HB; revert n0_ n1_ n2_; intro HO_3 BK215 HB; (try clear hb); (try clear hb2); (try clear hk); (try clear hi)))
    repeat (go_quiet (first | (go_at_call 27; (with_reducible refine (spec_Join.calls k1 _ _ x3_1 (⟨#[44]⟩ : ByteArray) t232 _ ?side1 ?side2 A52.out).mono ?_); (case side1 => repeat (first | exact (Kd.R_reads' HO_3.out).2.2 | (with_reducible refine Kd.C_alloc ?_ _) | (with_reducible refine Kd.C_drewN ?_ _) | (with_reducible refine Kd.C_drew ?_))); (case side2 => exact (Kd.R_reads' HO_3.out).2.1); rintro e w57 ⟨rfl, hb⟩; have n0_ := am (Kd.R_below (by (with_reducible repeat (first | apply Kd.R_alloc | apply Kd.R_drewN | apply Kd.R_drew)); exact HO_3.out) hb); have n1_ := am (blk_below (g := gb215) bkw hb); have n2_ := am (below_step blw hb); clear HO_3; clear BK215; clear HB; revert n0_ n1_ n2_; intro HO_3 BK215 HB; (try clear hb); (try clear hb2); (try clear hk); (try clear hi))); try go_wp2_with (first | (go_at_call 27; (with_reducible refine (spec_Join.calls k1 _ _ x3_1 (⟨#[44]⟩ : ByteArray) t232 _ ?side1 ?side2 A52.out).mono ?_); (case side1 => repeat (first | exact (Kd.R_reads' HO_3.out).2.2 | (with_reducible refine Kd.C_alloc ?_ _) | (with_reducible refine Kd.C_drewN ?_ _) | (with_reducible refine Kd.C_drew ?_))); (case side2 => exact (Kd.R_reads' HO_3.out).2.1); rintro e w57 ⟨rfl, hb⟩; have n0_ := am (Kd.R_below (by (with_reducible repeat (first | apply Kd.R_alloc | apply Kd.R_drewN | apply Kd.R_drew)); exact HO_3.out) hb); have n1_ := am (blk_below (g := gb215) bkw hb); have n2_ := am (below_step blw hb); clear HO_3; clear BK215; clear HB; revert n0_ n1_ n2_; intro HO_3 BK215 HB; (try clear hb); (try clear hb2); (try clear hk); (try clear hi))))
    go_ret
    exact ⟨rfw, blw⟩
   rw [if_neg c51] at H
   have c51b0 : (a0_0 == 5) = false := beq_eq_false_iff_ne.mpr c51
   have c51b1 : (a0_0 != 5) = true := bne_iff_ne.mpr c51
   by_cases c58 : a0_0 = 6
   ·rw [if_pos c58] at H
    have c58b0 : (a0_0 == 6) = true := beq_iff_eq.mpr c58
    have c58b1 : (a0_0 != 6) = false := bne_eq_false_iff_eq.mpr c58
    clear c58
    by_cases c59 : 0 < (x3_1.length : Int)
    case neg =>
     rw [if_neg c59] at H
     exact absurd H (by simp)
    rw [if_pos c59] at H
    have c59b0 : decide (0 < (x3_1.length : Int)) = true := decide_eq_true c59
    have c59b1 : decide (0 < x3_1.length) = true := decide_eq_true (by omega)
    clear c59
    by_cases c60 : (rdOf ByteArray.empty x3_1 0).size + 1 ≤ 9223372036854775807
    case neg =>
     rw [if_neg c60] at H
     exact absurd H (by simp)
    rw [if_pos c60] at H
    have c60b0 := eq_true c60
    have c60b1 : decide ((rdOf ByteArray.empty x3_1 0).size + 1 ≤ 9223372036854775807) = true := decide_eq_true c60
    try have c60b2 : (9223372036854775807 < (rdOf ByteArray.empty x3_1 0).size + 1) = False := eq_false (Nat.not_lt.2 c60)
    by_cases c61 : (rdOf ByteArray.empty x3_1 0).size + 1 + a0_1.size ≤ 9223372036854775807
    case neg =>
     rw [if_neg c61] at H
     exact absurd H (by simp)
    rw [if_pos c61] at H
    have c61b0 := eq_true c61
    have c61b1 : decide ((rdOf ByteArray.empty x3_1 0).size + 1 + a0_1.size ≤ 9223372036854775807) = true := decide_eq_true c61
    try have c61b2 : (9223372036854775807 < (rdOf ByteArray.empty x3_1 0).size + 1 + a0_1.size) = False := eq_false (Nat.not_lt.2 c61)
    obtain rfl := Option.some.inj H
    obtain ⟨hcz62_0, hcz62_1, hcz62_2, hcz62_3, hcz62_4, hcz62_5, hcz62_6, hcz62_7⟩ := cls8 BK215.out
    obtain ⟨hfz62_0, hfz62_1, hfz62_2, hfz62_3, hfz62_4, hfz62_5, hfz62_6, hfz62_7⟩ := frz8 BK215.out
    obtain ⟨Ao63, co63, eo63⟩ := Kd.R_slice HO_3.out
    subst eo63
    have p233 : 0 ≤ (0 : Int) := (by omega)
    have q233 : 0 < (x3_1.length : Int) := of_decide_eq_true asw
    obtain ⟨ad233, e233, hx233_0⟩ := Kd.at_string (Kd.R_reads' HO_3.out).2.2 0 p233 q233
    cases e233
    have qi233 : (0 < x3_1.length) = True := eq_true (by omega)
    (try rw [show ((0 : Int)).toNat = 0 from rfl] at hx233_0)
    (try rw [Addr.add_zero'] at hx233_0)
    replace p233 := eq_true p233
    replace q233 := eq_true q233
    go_wp2
    repeat (go_quiet (fail); try go_wp2)
    go_ret
    exact ⟨rfw, blw⟩
   rw [if_neg c58] at H
   have c58b0 : (a0_0 == 6) = false := beq_eq_false_iff_ne.mpr c58
   have c58b1 : (a0_0 != 6) = true := bne_iff_ne.mpr c58
   by_cases c64 : a0_0 = 7
   ·rw [if_pos c64] at H
    have c64b0 : (a0_0 == 7) = true := beq_iff_eq.mpr c64
    have c64b1 : (a0_0 != 7) = false := bne_eq_false_iff_eq.mpr c64
    clear c64
    replace H := Option.bind_eq_some_iff.mp H
    obtain ⟨t234, A650, H⟩ := H
    replace H : (if 2 + t234.size ≤ 9223372036854775807 then (if 2 + t234.size + 1 ≤ 9223372036854775807 then (some (((⟨#[91, 58]⟩ : ByteArray) ++ t234) ++ (⟨#[93]⟩ : ByteArray))) else (none)) else (none)) = some r := H
    have A65 := am A650
    clear A650
    by_cases c66 : 2 + t234.size ≤ 9223372036854775807
    case neg =>
     rw [if_neg c66] at H
     exact absurd H (by simp)
    rw [if_pos c66] at H
    have c66b0 := eq_true c66
    have c66b1 : decide (2 + t234.size ≤ 9223372036854775807) = true := decide_eq_true c66
    try have c66b2 : (9223372036854775807 < 2 + t234.size) = False := eq_false (Nat.not_lt.2 c66)
    by_cases c67 : 2 + t234.size + 1 ≤ 9223372036854775807
    case neg =>
     rw [if_neg c67] at H
     exact absurd H (by simp)
    rw [if_pos c67] at H
    have c67b0 := eq_true c67
    have c67b1 : decide (2 + t234.size + 1 ≤ 9223372036854775807) = true := decide_eq_true c67
    try have c67b2 : (9223372036854775807 < 2 + t234.size + 1) = False := eq_false (Nat.not_lt.2 c67)
    obtain rfl := Option.some.inj H
    obtain ⟨hcz68_0, hcz68_1, hcz68_2, hcz68_3, hcz68_4, hcz68_5, hcz68_6, hcz68_7⟩ := cls8 BK215.out
    obtain ⟨hfz68_0, hfz68_1, hfz68_2, hfz68_3, hfz68_4, hfz68_5, hfz68_6, hfz68_7⟩ := frz8 BK215.out
    go_wp2_with (first | (go_at_call 28; (with_reducible refine (spec_l4Text.calls k1 a0_3 _ _ l0_4 _ _ l0_5 t234 _ ?side1 ?side2 ?side3 ?side4 A65.out).mono ?_); (case side1 => have X_ := HR0_4; exact cbl); (case side2 => exact HC0_4.out); (case side3 => have X_ := HR0_5; exact cbl); (case side4 => exact HC0_5.out); rintro e w69 ⟨rfl, hb⟩; have n0_ := am (Kd.R_below (by (with_reducible repeat (first | apply Kd.R_alloc | apply Kd.R_drewN | apply Kd.R_drew)); exact HO_3.out) hb); have n1_ := am (blk_below (g := gb215) bkw hb); have n2_ := am (below_step blw hb); clear HO_3; clear BK215; clear HB; revert n0_ n1_ n2_; intro HO_3 BK215 HB; (try clear hb); (try clear hb2); (try clear hk); (try clear hi)))
    repeat (go_quiet (first | (go_at_call 28; (with_reducible refine (spec_l4Text.calls k1 a0_3 _ _ l0_4 _ _ l0_5 t234 _ ?side1 ?side2 ?side3 ?side4 A65.out).mono ?_); (case side1 => have X_ := HR0_4; exact cbl); (case side2 => exact HC0_4.out); (case side3 => have X_ := HR0_5; exact cbl); (case side4 => exact HC0_5.out); rintro e w69 ⟨rfl, hb⟩; have n0_ := am (Kd.R_below (by (with_reducible repeat (first | apply Kd.R_alloc | apply Kd.R_drewN | apply Kd.R_drew)); exact HO_3.out) hb); have n1_ := am (blk_below (g := gb215) bkw hb); have n2_ := am (below_step blw hb); clear HO_3; clear BK215; clear HB; revert n0_ n1_ n2_; intro HO_3 BK215 HB; (try clear hb); (try clear hb2); (try clear hk); (try clear hi))); try go_wp2_with (first | (go_at_call 28; (with_reducible refine (spec_l4Text.calls k1 a0_3 _ _ l0_4 _ _ l0_5 t234 _ ?side1 ?side2 ?side3 ?side4 A65.out).mono ?_); (case side1 => have X_ := HR0_4; exact cbl); (case side2 => exact HC0_4.out); (case side3 => have X_ := HR0_5; exact cbl); (case side4 => exact HC0_5.out); rintro e w69 ⟨rfl, hb⟩; have n0_ := am (Kd.R_below (by (with_reducible repeat (first | apply Kd.R_alloc | apply Kd.R_drewN | apply Kd.R_drew)); exact HO_3.out) hb); have n1_ := am (blk_below (g := gb215) bkw hb); have n2_ := am (below_step blw hb); clear HO_3; clear BK215; clear HB; revert n0_ n1_ n2_; intro HO_3 BK215 HB; (try clear hb); (try clear hb2); (try clear hk); (try clear hi))))
    go_ret
    exact ⟨rfw, blw⟩
   rw [if_neg c64] at H
   have c64b0 : (a0_0 == 7) = false := beq_eq_false_iff_ne.mpr c64
   have c64b1 : (a0_0 != 7) = true := bne_iff_ne.mpr c64
   by_cases c70 : a0_0 = 8
   ·rw [if_pos c70] at H
    have c70b0 : (a0_0 == 8) = true := beq_iff_eq.mpr c70
    have c70b1 : (a0_0 != 8) = false := bne_eq_false_iff_eq.mpr c70
    clear c70
    by_cases c71 : 0 < (x3_1.length : Int)
    case neg =>
     rw [if_neg c71] at H
     exact absurd H (by simp)
    rw [if_pos c71] at H
    have c71b0 : decide (0 < (x3_1.length : Int)) = true := decide_eq_true c71
    have c71b1 : decide (0 < x3_1.length) = true := decide_eq_true (by omega)
    clear c71
    by_cases c72 : 1 + (rdOf ByteArray.empty x3_1 0).size ≤ 9223372036854775807
    case neg =>
     rw [if_neg c72] at H
     exact absurd H (by simp)
    rw [if_pos c72] at H
    have c72b0 := eq_true c72
    have c72b1 : decide (1 + (rdOf ByteArray.empty x3_1 0).size ≤ 9223372036854775807) = true := decide_eq_true c72
    try have c72b2 : (9223372036854775807 < 1 + (rdOf ByteArray.empty x3_1 0).size) = False := eq_false (Nat.not_lt.2 c72)
    by_cases c73 : 1 + (rdOf ByteArray.empty x3_1 0).size + 1 ≤ 9223372036854775807
    case neg =>
     rw [if_neg c73] at H
     exact absurd H (by simp)
    rw [if_pos c73] at H
    have c73b0 := eq_true c73
    have c73b1 : decide (1 + (rdOf ByteArray.empty x3_1 0).size + 1 ≤ 9223372036854775807) = true := decide_eq_true c73
    try have c73b2 : (9223372036854775807 < 1 + (rdOf ByteArray.empty x3_1 0).size + 1) = False := eq_false (Nat.not_lt.2 c73)
    obtain rfl := Option.some.inj H
    obtain ⟨hcz74_0, hcz74_1, hcz74_2, hcz74_3, hcz74_4, hcz74_5, hcz74_6, hcz74_7⟩ := cls8 BK215.out
    obtain ⟨hfz74_0, hfz74_1, hfz74_2, hfz74_3, hfz74_4, hfz74_5, hfz74_6, hfz74_7⟩ := frz8 BK215.out
    obtain ⟨Ao75, co75, eo75⟩ := Kd.R_slice HO_3.out
    subst eo75
    have p235 : 0 ≤ (0 : Int) := (by omega)
    have q235 : 0 < (x3_1.length : Int) := of_decide_eq_true asw
    obtain ⟨ad235, e235, hx235_0⟩ := Kd.at_string (Kd.R_reads' HO_3.out).2.2 0 p235 q235
    cases e235
    have qi235 : (0 < x3_1.length) = True := eq_true (by omega)
    (try rw [show ((0 : Int)).toNat = 0 from rfl] at hx235_0)
    (try rw [Addr.add_zero'] at hx235_0)
    replace p235 := eq_true p235
    replace q235 := eq_true q235
    go_wp2
    repeat (go_quiet (fail); try go_wp2)
    go_ret
    exact ⟨rfw, blw⟩
   rw [if_neg c70] at H
   have c70b0 : (a0_0 == 8) = false := beq_eq_false_iff_ne.mpr c70
   have c70b1 : (a0_0 != 8) = true := bne_iff_ne.mpr c70
   replace H := Option.bind_eq_some_iff.mp H
   obtain ⟨t236, A760, H⟩ := H
   replace H : (some t236) = some r := H
   have A76 := am A760
   clear A760
   obtain rfl := Option.some.inj H
   obtain ⟨hcz77_0, hcz77_1, hcz77_2, hcz77_3, hcz77_4, hcz77_5, hcz77_6, hcz77_7⟩ := cls8 BK215.out
   obtain ⟨hfz77_0, hfz77_1, hfz77_2, hfz77_3, hfz77_4, hfz77_5, hfz77_6, hfz77_7⟩ := frz8 BK215.out
   obtain ⟨Ao78, co78, eo78⟩ := Kd.R_slice HO_3.out
   subst eo78
   go_wp2_with (first | (go_at_call 29; (with_reducible refine (spec_l8Long.calls k1 a0_0 a0_1 a0_2 a0_3 _ _ l0_4 _ _ l0_5 _ _ l0_6 _ _ l0_7 _ _ x3_1 t236 _ ?side1 ?side2 ?side3 ?side4 ?side5 ?side6 ?side7 ?side8 ?side9 ?side10 A76.out).mono ?_); (case side1 => have X_ := HR0_4; exact cbl); (case side2 => exact HC0_4.out); (case side3 => have X_ := HR0_5; exact cbl); (case side4 => exact HC0_5.out); (case side5 => have X_ := HR0_6; exact cbl); (case side6 => exact HC0_6.out); (case side7 => have X_ := HR0_7; exact cbl); (case side8 => exact HC0_7.out); (case side9 => repeat (first | exact (Kd.R_reads' HO_3.out).2.2 | (with_reducible refine Kd.C_alloc ?_ _) | (with_reducible refine Kd.C_drewN ?_ _) | (with_reducible refine Kd.C_drew ?_))); (case side10 => exact (Kd.R_reads' HO_3.out).2.1); rintro e w79 ⟨rfl, hb⟩; have n0_ := am (Kd.R_below (by (with_reducible repeat (first | apply Kd.R_alloc | apply Kd.R_drewN | apply Kd.R_drew)); exact HO_3.out) hb); have n1_ := am (blk_below (g := gb215) bkw hb); have n2_ := am (below_step blw hb); clear HO_3; clear BK215; clear HB; revert n0_ n1_ n2_; intro HO_3 BK215 HB; (try clear hb); (try clear hb2); (try clear hk); (try clear hi)))
   repeat (go_quiet (first | (go_at_call 29; (with_reducible refine (spec_l8Long.calls k1 a0_0 a0_1 a0_2 a0_3 _ _ l0_4 _ _ l0_5 _ _ l0_6 _ _ l0_7 _ _ x3_1 t236 _ ?side1 ?side2 ?side3 ?side4 ?side5 ?side6 ?side7 ?side8 ?side9 ?side10 A76.out).mono ?_); (case side1 => have X_ := HR0_4; exact cbl); (case side2 => exact HC0_4.out); (case side3 => have X_ := HR0_5; exact cbl); (case side4 => exact HC0_5.out); (case side5 => have X_ := HR0_6; exact cbl); (case side6 => exact HC0_6.out); (case side7 => have X_ := HR0_7; exact cbl); (case side8 => exact HC0_7.out); (case side9 => repeat (first | exact (Kd.R_reads' HO_3.out).2.2 | (with_reducible refine Kd.C_alloc ?_ _) | (with_reducible refine Kd.C_drewN ?_ _) | (with_reducible refine Kd.C_drew ?_))); (case side10 => exact (Kd.R_reads' HO_3.out).2.1); rintro e w79 ⟨rfl, hb⟩; have n0_ := am (Kd.R_below (by (with_reducible repeat (first | apply Kd.R_alloc | apply Kd.R_drewN | apply Kd.R_drew)); exact HO_3.out) hb); have n1_ := am (blk_below (g := gb215) bkw hb); have n2_ := am (below_step blw hb); clear HO_3; clear BK215; clear HB; revert n0_ n1_ n2_; intro HO_3 BK215 HB; (try clear hb); (try clear hb2); (try clear hk); (try clear hi))); try go_wp2_with (first | (go_at_call 29; (with_reducible refine (spec_l8Long.calls k1 a0_0 a0_1 a0_2 a0_3 _ _ l0_4 _ _ l0_5 _ _ l0_6 _ _ l0_7 _ _ x3_1 t236 _ ?side1 ?side2 ?side3 ?side4 ?side5 ?side6 ?side7 ?side8 ?side9 ?side10 A76.out).mono ?_); (case side1 => have X_ := HR0_4; exact cbl); (case side2 => exact HC0_4.out); (case side3 => have X_ := HR0_5; exact cbl); (case side4 => exact HC0_5.out); (case side5 => have X_ := HR0_6; exact cbl); (case side6 => exact HC0_6.out); (case side7 => have X_ := HR0_7; exact cbl); (case side8 => exact HC0_7.out); (case side9 => repeat (first | exact (Kd.R_reads' HO_3.out).2.2 | (with_reducible refine Kd.C_alloc ?_ _) | (with_reducible refine Kd.C_drewN ?_ _) | (with_reducible refine Kd.C_drew ?_))); (case side10 => exact (Kd.R_reads' HO_3.out).2.1); rintro e w79 ⟨rfl, hb⟩; have n0_ := am (Kd.R_below (by (with_reducible repeat (first | apply Kd.R_alloc | apply Kd.R_drewN | apply Kd.R_drew)); exact HO_3.out) hb); have n1_ := am (blk_below (g := gb215) bkw hb); have n2_ := am (below_step blw hb); clear HO_3; clear BK215; clear HB; revert n0_ n1_ n2_; intro HO_3 BK215 HB; (try clear hb); (try clear hb2); (try clear hk); (try clear hi))))
   go_ret
   exact ⟨rfw, blw⟩

end Go.Proofs.YtgplgphchdgedaaDoor.Px
