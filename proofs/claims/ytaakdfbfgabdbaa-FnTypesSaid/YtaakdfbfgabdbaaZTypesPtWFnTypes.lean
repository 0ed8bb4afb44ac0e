/- The walk of the law FnTypes: what it does, by what its functions come to. -/
import Derived.Test.YtaakdfbfgabdbaaZTypesExtM
import Derived.Test.YtaakdfbfgabdbaaZTypesPt10M
import Derived.Test.YtaakdfbfgabdbaaZTypesPt13
import Derived.Test.YtaakdfbfgabdbaaZTypesPt15M
import Derived.Test.YtaakdfbfgabdbaaZTypesPt16
import Derived.Test.YtaakdfbfgabdbaaZTypesPtDrawT3M
import Derived.Test.YtaakdfbfgabdbaaZTypesPt19M
import Derived.Test.YtaakdfbfgabdbaaZTypesPt6M
import Derived.Test.YtaakdfbfgabdbaaZTypesPtTForm2M
namespace Go.Proofs.Ytaakdfbfgabdbaa.Pt
open Go.RowKit Go.Proofs.YtaakdfbfgabdbaaW.PrintWords Go.Proofs.YtaakdfbfgabdbaaW.PrintLast Go.Proofs.YtaakdfbfgabdbaaW.PrintMore Go.Proofs.Ytaakdfbfgabdbaa.Pl Go.Proofs.Ytaakdfbfgabdbaa.Ext
set_option linter.unusedVariables false
set_option linter.unusedSimpArgs false
def laws_FnTypes.T16 : Bool × List (List Nat × List Nat) := (true, [([], []), ([0], [0]), ([], []), ([1, 2], [1, 2]), ([3, 1], [3]), ([4], [4]), ([5, 4, 4], [4, 5]), ([4], [4]), ([7, 4], [4, 7]), ([6, 8, 4], [4, 6, 8]), ([4, 9], [4, 9]), ([10, 6], [10]), ([11], [11]), ([12, 11, 11], [11, 12]), ([11], [11]), ([13, 14, 11], [11, 13, 14]), ([11, 15], [11, 15]), ([16, 13], [16]), ([17], [17]), ([18, 17, 17], [17, 18]), ([17], [17]), ([20, 19, 17], [17, 20]), ([19, 21, 17], [17, 19, 21]), ([17, 22], [17, 22]), ([23, 21], [23]), ([24], [24]), ([25, 24, 24], [24, 25]), ([24], [24]), ([27, 26, 24], [24, 27]), ([26, 28, 24], [24, 26, 28]), ([24, 29], [24, 29])])
def laws_FnTypes.B16 : List Nat := [0, 1, 0, 7, 15, 31, 63, 31, 159, 511, 1023, 2047, 4095, 8191, 4095, 32767, 65535, 131071, 262143, 524287, 262143, 2097151, 4194303, 8388607, 16777215, 33554431, 67108863, 33554431, 268435455, 536870911, 1073741823]
theorem laws_FnTypes.tab16 : rtab .any (opsOf Try.f3 16) = laws_FnTypes.T16 := by kernel_rfl
theorem laws_FnTypes.bits16 : waitsOk laws_FnTypes.T16.2 laws_FnTypes.B16 = true := by kernel_rfl
def laws_FnTypes.T23 : Bool × List (List Nat × List Nat) := (true, [([], []), ([0], [0]), ([], []), ([2, 1], [2]), ([1, 3], [1, 3]), ([4, 3], [4]), ([5], [5]), ([5], [5]), ([6, 7, 5], [5, 6, 7]), ([5, 8], [5, 8]), ([9, 5], [9]), ([10], [10]), ([10], [10]), ([11, 12, 10, 10], [10, 11, 12]), ([10, 13], [10, 13]), ([14, 13], [14]), ([15], [15]), ([15], [15]), ([16, 17, 15, 15], [15, 16, 17]), ([15], [15]), ([15], [15]), ([19, 20, 18, 15], [15, 19, 20]), ([18, 21, 15], [15, 18, 21]), ([15, 22], [15, 22]), ([23, 21], [23]), ([24], [24]), ([25, 24, 24], [24, 25]), ([26, 24], [24, 26]), ([27, 26, 24], [24, 27]), ([28], [28]), ([29, 28, 28], [28, 29]), ([30, 28], [28, 30]), ([31, 30, 28], [28, 31]), ([32], [32]), ([33, 32, 32], [32, 33]), ([32, 34, 28], [28, 32, 34]), ([28, 35, 24], [24, 28, 35]), ([24, 36], [24, 36]), ([37, 34, 0, 1, 2, 3, 4, 5, 6, 7, 8, 9, 10, 11, 12, 13, 14, 15, 16, 17, 18, 19, 20, 21, 22, 23, 24, 25, 26, 27, 28, 29, 30, 31, 32, 33, 34, 35, 36, 37], [37])])
def laws_FnTypes.B23 : List Nat := [0, 1, 0, 7, 15, 31, 63, 63, 255, 511, 1023, 2047, 2047, 8191, 16383, 32767, 65535, 65535, 262143, 65535, 65535, 2097151, 4194303, 8388607, 16777215, 33554431, 67108863, 134217727, 268435455, 536870911, 1073741823, 2147483647, 4294967295, 8589934591, 17179869183, 34359738367, 68719476735, 137438953471, 274877906943]
theorem laws_FnTypes.tab23 : rtab .any (opsOf Try.f3 23) = laws_FnTypes.T23 := by kernel_rfl
theorem laws_FnTypes.bits23 : waitsOk laws_FnTypes.T23.2 laws_FnTypes.B23 = true := by kernel_rfl
set_option maxHeartbeats 8000000 in
set_option maxRecDepth 100000 in
theorem FnTypes_walk (l0 : List Int) {t0 r0 x0 f0 g0 a0 b0 : Int} {t1 r1 x1 f1 g1 a1 b1 : List ByteArray} {t2 r2 x2 f2 g2 a2 b2 : List S27} {lb : ByteArray} {ok vV vD vE vR : Bool} {sm dp bg sz dz bz : Int → Int}
    (hb0t : t0 = 4 → bg 0 = 1) (hb0f : ¬ t0 = 4 → bg 0 = 0) (hsm0 : Aside0 (sm 0 = 1)) (hdp0 : Aside0 (dp 0 = 0))
    (hw : Aside0 (∀ i : Int, 0 ≤ i → i < (t2.length : Int) → wrap64 (i + 1) = i + 1))
    (hsm : Aside0 (∀ i : Int, 0 ≤ i → i < (t2.length : Int) → sm (wrap64 (i + 1)) = wrap64 (sm i + sz i))) (hbg : Aside0 (∀ i : Int, 0 ≤ i → i < (t2.length : Int) → bg (wrap64 (i + 1)) = wrap64 (bg i + bz i))) (hdp : Aside0 (∀ i : Int, 0 ≤ i → i < (t2.length : Int) → dp (wrap64 (i + 1)) = if dz i > dp i then dz i else dp i))
    (hS : ∀ i : Int, 0 ≤ i → i < (t2.length : Int) → ∃ k, impl_SizeOfType.f k ((rd_T27 t2 i).f0) ((rd_T27 t2 i).f1) ((rd_T27 t2 i).f2) = some (sz i)) (hG : ∀ i : Int, 0 ≤ i → i < (t2.length : Int) → ∃ k, impl_CountBags.f k ((rd_T27 t2 i).f0) ((rd_T27 t2 i).f1) ((rd_T27 t2 i).f2) = some (bz i)) (hD : ∀ i : Int, 0 ≤ i → i < (t2.length : Int) → ∃ k, impl_DepthOfType.f k ((rd_T27 t2 i).f0) ((rd_T27 t2 i).f1) ((rd_T27 t2 i).f2) = some (dz i))
    (hR1 : ∃ k, impl_IsRow.f k r0 r1 r2 = some vR) (hR2 : ∃ k, spec_IsRow.f k r0 r1 r2 = some vR) (hcb : vR = true → ∃ k, impl_CountBags.f k r0 r1 r2 = some 0) (hda : vR = true → ∃ k, impl_IsData.f k r0 r1 r2 = some true)
    (p0 : Aside0 (laws_big.f l0 = some false))
    (p1 : ∃ k, spec_DrawIsValidType.f k l0 = some (t0, t1, t2))
    (p2 : ∃ k, impl_SizeOfType.f k t0 t1 t2 = some (sm (t2.length : Int)))
    (p3 : ∃ k, impl_DepthOfType.f k t0 t1 t2 = some (wrap64 ((dp (t2.length : Int)) + 1)))
    (p4 : ∃ k, impl_CountBags.f k t0 t1 t2 = some (bg (t2.length : Int)))
    (p5 : ∃ k, impl_IsValidType.f k t0 t1 t2 = some vV)
    (p6 : ∃ k, spec_IsValidType.f k t0 t1 t2 = some vV)
    (p7 : ∃ k, impl_IsData.f k t0 t1 t2 = some vD)
    (p8 : ∃ k, spec_IsData.f k t0 t1 t2 = some vD)
    (p9 : ∃ k, spec_DrawIsRow.f k l0 = some (r0, r1, r2))
    (p10 : ∃ k, spec_DrawFieldType.f k l0 = some (x0, x1, x2, lb))
    (p11 : ∃ k, impl_FieldType.f k x0 x1 x2 lb = some (f0, f1, f2, ok))
    (p12 : ∃ k, spec_FieldType.f k x0 x1 x2 lb = some (g0, g1, g2, ok))
    (p13 : ∃ k, spec_DrawEqualType.f k l0 = some (a0, a1, a2, b0, b1, b2))
    (p14 : ∃ k, impl_EqualType.f k f0 f1 f2 g0 g1 g2 = some true)
    (p15 : ∃ k, impl_EqualType.f k a0 a1 a2 b0 b1 b2 = some vE)
    (p16 : ∃ k, spec_EqualType.f k a0 a1 a2 b0 b1 b2 = some vE)
    (W : World) {Al0 : Option Addr} {cl0 : Nat} (HRl0 : Kd.C (Kd.int .u8) W Al0 l0.length l0) (HCl0 : l0.length ≤ cl0) :
    Calls Try.prog 3 #[.slice Al0 l0.length cl0] W fun e w' => e = .returned (.bool true) ∧ Below W.heap.size W w' := by
  replace HRl0 := Aside0.mk HRl0
  replace HCl0 := Aside0.mk HCl0
  have HB0 := Aside0.mk (Below.refl W.heap.size W)
  go_enter Try.func3, Try.ntmps3
  go_upto_if 23 with (first
    | ((with_reducible refine gate_callee (f := 4) rfl ?_)
       refine goesL_ (some 18) rfl rfl Try.func4 (by kernel_rfl) rfl #[.slice Al0 l0.length cl0] rfl (by (try simp only [List.map_toArray, List.map_cons, List.map_nil]); first | done | rfl | (simp only [List.length_drop, List.length_take]; rfl)) ?_
       (with_reducible refine (laws_big.calls _ _ l0 false _ (Kd.C_below HRl0.out HB0.out) HCl0.out p0.out).mono ?_)
       rintro e w2 ⟨rfl, hb⟩
       refine ⟨_, rfl, ?_⟩
       replace hb := Drawn0.below hb
       replace HB0 := Aside0.mk (below_step HB0.out hb)
       clear hb)
    | ((with_reducible refine gate_callee (f := 5) rfl ?_)
       refine goesL_ (some 20) rfl rfl Try.func5 (by kernel_rfl) rfl #[.slice Al0 l0.length cl0] rfl (by (try simp only [List.map_toArray, List.map_cons, List.map_nil]); first | done | rfl | (simp only [List.length_drop, List.length_take]; rfl)) ?_
       have hh := p1
       obtain ⟨k3, e3⟩ := hh
       (with_reducible refine (spec_DrawIsValidType.calls k3 _ _ l0 t0 t1 t2 _ (Kd.C_below HRl0.out HB0.out) HCl0.out e3).mono ?_)
       rintro e w4 ⟨v3_0, v3_1, rfl, ho3_0, ho3_1, hb⟩
       refine ⟨_, rfl, ?_⟩
       clear e3
       replace HB0 := Aside0.mk (below_step HB0.out hb)
       clear hb
       have HB5 := Aside0.mk (Below.refl w4.heap.size w4)
       obtain ⟨A3_0, c3_0, ev_⟩ := Kd.R_slice ho3_0
       subst ev_
       have HR3_0 := Aside0.mk (Kd.R_reads' ho3_0).2.2
       have HC3_0 := Aside0.mk (Kd.R_reads' ho3_0).2.1
       clear ho3_0
       obtain ⟨A3_1, c3_1, ev_⟩ := Kd.N_slice ho3_1
       subst ev_
       have HR3_1 := Aside0.mk (Kd.N_reads' ho3_1).2.2
       have HC3_1 := Aside0.mk (Kd.N_reads' ho3_1).2.1
       clear ho3_1)
    | ((with_reducible refine gate_dst (N := 3) rfl ?_)
       refine box_event ?hg (N := 3) ?hd (cs := #[.int .i64 0, .slice none 0 0, .slice none 0 0]) (t := 27) ?hr ?_; (case hd => rfl); (case hg => rfl); (case hr => first | (go_simp; done) | (go_simp; rfl))
       intro gb3_7 hg w6 hbox hbA
       have HBA := Aside0.mk hbA
       have HGgb3_7 := Aside0.mk (show w4.heap.size ≤ gb3_7 by rw [hg]; exact Nat.le_refl _)
       have HXgb3_7 := Aside0.mk hbox
       clear hbA hg hbox
       have hx3_0 : w6.cell? ⟨gb3_7, 0, none⟩ = some (.int .i64 0) := (blk_cell HXgb3_7.out 0).trans rfl
       have hx3_1 : w6.cell? ⟨gb3_7, 1, none⟩ = some (.slice none 0 0) := (blk_cell HXgb3_7.out 1).trans rfl
       have hx3_2 : w6.cell? ⟨gb3_7, 2, none⟩ = some (.slice none 0 0) := (blk_cell HXgb3_7.out 2).trans rfl
       have hf3_0 := blk_frozen HXgb3_7.out 0
       have hf3_1 := blk_frozen HXgb3_7.out 1
       have hf3_2 := blk_frozen HXgb3_7.out 2)
    | ((with_reducible refine gate_store (t := 27) (p := 3) rfl ?_)
       refine store_event (t := 27) (p := 3) (v := ?vo_w8) (w1 := (((w6.setCell ⟨gb3_7, 0, none⟩ (.int .i64 t0)).setCell ⟨gb3_7, 1, none⟩ (.slice A3_0 t1.length c3_0)).setCell ⟨gb3_7, 2, none⟩ (.slice A3_1 t2.length c3_1))) ?hg ?ho ?hn ?hr ?_; (case ho => rfl); (case hg => rfl); (case hn => rfl); (case hr => first | (go_simp; done) | (go_simp; rfl)); intro w8 hw
       replace HBA := Aside0.mk (show Below w4.heap.size w4 w8 by rw [hw]; exact below_set (below_set (below_set (HBA.out) HGgb3_7.out) HGgb3_7.out) HGgb3_7.out)
       replace HXgb3_7 := Aside0.mk (show w8.heap[gb3_7]? = some (.cells #[.int .i64 t0, .slice A3_0 t1.length c3_0, .slice A3_1 t2.length c3_1] 27 (0, 0)) by rw [hw]; exact blk_put (cs := #[.int .i64 t0, .slice A3_0 t1.length c3_0, .slice none 0 0]) (blk_put (cs := #[.int .i64 t0, .slice none 0 0, .slice none 0 0]) (blk_put (cs := #[.int .i64 0, .slice none 0 0, .slice none 0 0]) (HXgb3_7.out) 0 (.int .i64 t0) rfl) 1 (.slice A3_0 t1.length c3_0) rfl) 2 (.slice A3_1 t2.length c3_1) rfl)
       clear hw hx3_0 hx3_1 hx3_2 hf3_0 hf3_1 hf3_2
       have hb := HBA.out
       replace HB0 := Aside0.mk (below_step HB0.out hb)
       replace HB5 := Aside0.mk (below_step HB5.out hb)
       have HB9 := Aside0.mk (Below.refl w8.heap.size w8)
       replace HR3_0 := Aside0.mk (Kd.C_below HR3_0.out hb)
       replace HR3_1 := Aside0.mk (Kd.C_below HR3_1.out hb)
       clear HB5
       have BK3_7 := HXgb3_7
       clear HXgb3_7 HGgb3_7
       clear HBA hb
       have hx3_0 : w8.cell? ⟨gb3_7, 0, none⟩ = some (.int .i64 t0) := (blk_cell (blk_below BK3_7.out HB9.out) 0).trans rfl))
  go_cut [6] (fun v6 wc => v6 = .int .i64 (bg 0) ∧ Aside0 (Below W.heap.size W wc) ∧ Aside0 (Below w8.heap.size w8 wc))
  case first =>
    by_cases c13 : t0 = 4
    · have c13b0 : (t0 == 4) = true := beq_iff_eq.mpr c13
      (first | rw [c13b0] | (simp only [i64_w, i32_w]; rw [c13b0]) | skip)
      go_wp2
      go_meet
      case rel => exact ⟨by rw [hb0t c13], ⟨HB0.out⟩, ⟨HB9.out⟩⟩
    · have c13b0 : (t0 == 4) = false := beq_eq_false_iff_ne.mpr c13
      (first | rw [c13b0] | (simp only [i64_w, i32_w]; rw [c13b0]) | skip)
      go_wp2
      go_meet
      case rel => exact ⟨by rw [hb0f c13], ⟨HB0.out⟩, ⟨HB9.out⟩⟩
  case rest =>
    obtain ⟨rfl, HB0, HB9⟩ := hcut
    try clear hx3_0
    go_wp2
    go_loopg [4, 5, 6, 7] t2.length (fun kq v4 v5 v6 v7 w' => ∃ i : Int, v4 = .int .i64 (sm i) ∧ v5 = .int .i64 (dp i) ∧ v6 = .int .i64 (bg i) ∧ v7 = .int .i64 i ∧ Aside0 (0 ≤ i ∧ i + kq = (t2.length : Int)) ∧ Aside0 (Below W.heap.size W w') ∧ Aside0 (Below w8.heap.size w8 w'))
    case atStart => exact ⟨0, (by rw [hsm0.out]), (by rw [hdp0.out]), rfl, rfl, ⟨Int.le_refl _, by omega⟩, ⟨HB0.out⟩, ⟨HB9.out⟩⟩
    case round =>
      obtain ⟨i, rfl, rfl, rfl, rfl, HI, HB0, HB9⟩ := hrel
      by_cases c14 : i < (t2.length : Int)
      · have c14b0 : decide (i < (t2.length : Int)) = true := decide_eq_true c14
        have c15b0 : decide (0 ≤ i) = true := decide_eq_true HI.out.1
        have q_ := Aside0.mk c14
        have p1_ := eq_true HI.out.1
        have q1_ := eq_true c14
        clear c14
        have hSp := hS i HI.out.1 q_.out
        have hGp := hG i HI.out.1 q_.out
        have hDp := hD i HI.out.1 q_.out
        have hx3_0 : wr.cell? ⟨gb3_7, 0, none⟩ = some (.int .i64 t0) := (blk_cell (blk_below BK3_7.out HB9.out) 0).trans rfl
        have hx3_1 : wr.cell? ⟨gb3_7, 1, none⟩ = some (.slice A3_0 t1.length c3_0) := (blk_cell (blk_below BK3_7.out HB9.out) 1).trans rfl
        have hx3_2 : wr.cell? ⟨gb3_7, 2, none⟩ = some (.slice A3_1 t2.length c3_1) := (blk_cell (blk_below BK3_7.out HB9.out) 2).trans rfl
        obtain ⟨adz10, Az10_1, cz10_1, Az10_2, cz10_2, eAz10, hxz10_0, hxz10_1, hxz10_2, hlz10_1, hiz10_1, hlz10_2, hiz10_2⟩ := at_T27 (Kd.C_below HR3_1.out HB9.out) i HI.out.1 q_.out
        cases eAz10
        have HRz10_1 := Aside0.mk hiz10_1
        have HCz10_1 := Aside0.mk hlz10_1
        clear hiz10_1 hlz10_1
        have HRz10_2 := Aside0.mk hiz10_2
        have HCz10_2 := Aside0.mk hlz10_2
        clear hiz10_2 hlz10_2
        go_upto_if 54 with (first
          | ((with_reducible refine gate_callee (f := 6) rfl ?_)
             refine goesL_ (some 37) rfl rfl Try.func6 (by kernel_rfl) rfl #[.agg #[.int .i64 ((rd_T27 t2 i).f0), .slice Az10_1 ((rd_T27 t2 i).f1).length cz10_1, .slice Az10_2 ((rd_T27 t2 i).f2).length cz10_2]] rfl (by (try simp only [List.map_toArray, List.map_cons, List.map_nil]); first | done | rfl | (simp only [List.length_drop, List.length_take]; rfl)) ?_
             have hh := hSp
             obtain ⟨k11, e11⟩ := hh
             (with_reducible refine (impl_SizeOfType.calls k11 ((rd_T27 t2 i).f0) _ _ ((rd_T27 t2 i).f1) _ _ ((rd_T27 t2 i).f2) (sz i) _ HRz10_1.out HCz10_1.out HRz10_2.out HCz10_2.out e11).mono ?_)
             rintro e w12 ⟨rfl, hb⟩
             refine ⟨_, rfl, ?_⟩
             clear e11
             clear hx3_0 hx3_1 hx3_2 hxz10_0 hxz10_1 hxz10_2
             replace HB0 := Aside0.mk (below_step HB0.out hb)
             replace HB9 := Aside0.mk (below_step HB9.out hb)
             clear hb
             have hx3_2 : w12.cell? ⟨gb3_7, 2, none⟩ = some (.slice (some adz10) t2.length c3_1) := (blk_cell (blk_below BK3_7.out HB9.out) 2).trans rfl
             obtain ⟨adz13, Az13_1, cz13_1, Az13_2, cz13_2, eAz13, hxz13_0, hxz13_1, hxz13_2, hlz13_1, hiz13_1, hlz13_2, hiz13_2⟩ := at_T27 (Kd.C_below HR3_1.out HB9.out) i HI.out.1 q_.out
             obtain rfl : adz10 = adz13 := (by injection eAz13)
             have HRz13_1 := Aside0.mk hiz13_1
             have HCz13_1 := Aside0.mk hlz13_1
             clear hiz13_1 hlz13_1
             have HRz13_2 := Aside0.mk hiz13_2
             have HCz13_2 := Aside0.mk hlz13_2
             clear hiz13_2 hlz13_2)
          | ((with_reducible refine gate_callee (f := 7) rfl ?_)
             refine goesL_ (some 45) rfl rfl Try.func7 (by kernel_rfl) rfl #[.agg #[.int .i64 ((rd_T27 t2 i).f0), .slice Az13_1 ((rd_T27 t2 i).f1).length cz13_1, .slice Az13_2 ((rd_T27 t2 i).f2).length cz13_2]] rfl (by (try simp only [List.map_toArray, List.map_cons, List.map_nil]); first | done | rfl | (simp only [List.length_drop, List.length_take]; rfl)) ?_
             have hh := hGp
             obtain ⟨k14, e14⟩ := hh
             (with_reducible refine (impl_CountBags.calls k14 ((rd_T27 t2 i).f0) _ _ ((rd_T27 t2 i).f1) _ _ ((rd_T27 t2 i).f2) (bz i) _ HRz13_1.out HCz13_1.out HRz13_2.out HCz13_2.out e14).mono ?_)
             rintro e w15 ⟨rfl, hb⟩
             refine ⟨_, rfl, ?_⟩
             clear e14
             clear hx3_2 hxz13_0 hxz13_1 hxz13_2
             replace HB0 := Aside0.mk (below_step HB0.out hb)
             replace HB9 := Aside0.mk (below_step HB9.out hb)
             clear hb
             have hx3_2 : w15.cell? ⟨gb3_7, 2, none⟩ = some (.slice (some adz10) t2.length c3_1) := (blk_cell (blk_below BK3_7.out HB9.out) 2).trans rfl
             obtain ⟨adz16, Az16_1, cz16_1, Az16_2, cz16_2, eAz16, hxz16_0, hxz16_1, hxz16_2, hlz16_1, hiz16_1, hlz16_2, hiz16_2⟩ := at_T27 (Kd.C_below HR3_1.out HB9.out) i HI.out.1 q_.out
             obtain rfl : adz10 = adz16 := (by injection eAz16)
             have HRz16_1 := Aside0.mk hiz16_1
             have HCz16_1 := Aside0.mk hlz16_1
             clear hiz16_1 hlz16_1
             have HRz16_2 := Aside0.mk hiz16_2
             have HCz16_2 := Aside0.mk hlz16_2
             clear hiz16_2 hlz16_2)
          | ((with_reducible refine gate_callee (f := 8) rfl ?_)
             refine goesL_ (some 52) rfl rfl Try.func8 (by kernel_rfl) rfl #[.agg #[.int .i64 ((rd_T27 t2 i).f0), .slice Az16_1 ((rd_T27 t2 i).f1).length cz16_1, .slice Az16_2 ((rd_T27 t2 i).f2).length cz16_2]] rfl (by (try simp only [List.map_toArray, List.map_cons, List.map_nil]); first | done | rfl | (simp only [List.length_drop, List.length_take]; rfl)) ?_
             have hh := hDp
             obtain ⟨k17, e17⟩ := hh
             (with_reducible refine (impl_DepthOfType.calls k17 ((rd_T27 t2 i).f0) _ _ ((rd_T27 t2 i).f1) _ _ ((rd_T27 t2 i).f2) (dz i) _ HRz16_1.out HCz16_1.out HRz16_2.out HCz16_2.out e17).mono ?_)
             rintro e w18 ⟨rfl, hb⟩
             refine ⟨_, rfl, ?_⟩
             clear e17
             clear hx3_2 hxz16_0 hxz16_1 hxz16_2
             replace HB0 := Aside0.mk (below_step HB0.out hb)
             replace HB9 := Aside0.mk (below_step HB9.out hb)
             clear hb))
        by_cases c26 : dz i > dp i
        · have c26b0 : decide (dp i < dz i) = true := decide_eq_true c26
          have c26a := Aside0.mk c26
          clear c26
          (first | rw [c26b0] | (simp only [i64_w, i32_w]; rw [c26b0]) | skip)
          have hx3_2 : w18.cell? ⟨gb3_7, 2, none⟩ = some (.slice (some adz10) t2.length c3_1) := (blk_cell (blk_below BK3_7.out HB9.out) 2).trans rfl
          obtain ⟨adz19, Az19_1, cz19_1, Az19_2, cz19_2, eAz19, hxz19_0, hxz19_1, hxz19_2, hlz19_1, hiz19_1, hlz19_2, hiz19_2⟩ := at_T27 (Kd.C_below HR3_1.out HB9.out) i HI.out.1 q_.out
          obtain rfl : adz10 = adz19 := (by injection eAz19)
          have HRz19_1 := Aside0.mk hiz19_1
          have HCz19_1 := Aside0.mk hlz19_1
          clear hiz19_1 hlz19_1
          have HRz19_2 := Aside0.mk hiz19_2
          have HCz19_2 := Aside0.mk hlz19_2
          clear hiz19_2 hlz19_2
          go_wp2_with (first
            | ((with_reducible refine gate_callee (f := 8) rfl ?_)
               refine goesL_ (some 60) rfl rfl Try.func8 (by kernel_rfl) rfl #[.agg #[.int .i64 ((rd_T27 t2 i).f0), .slice Az19_1 ((rd_T27 t2 i).f1).length cz19_1, .slice Az19_2 ((rd_T27 t2 i).f2).length cz19_2]] rfl (by (try simp only [List.map_toArray, List.map_cons, List.map_nil]); first | done | rfl | (simp only [List.length_drop, List.length_take]; rfl)) ?_
               have hh := hDp
               obtain ⟨k20, e20⟩ := hh
               (with_reducible refine (impl_DepthOfType.calls k20 ((rd_T27 t2 i).f0) _ _ ((rd_T27 t2 i).f1) _ _ ((rd_T27 t2 i).f2) (dz i) _ HRz19_1.out HCz19_1.out HRz19_2.out HCz19_2.out e20).mono ?_)
               rintro e w21 ⟨rfl, hb⟩
               refine ⟨_, rfl, ?_⟩
               clear e20
               clear hx3_2 hxz19_0 hxz19_1 hxz19_2
               replace HB0 := Aside0.mk (below_step HB0.out hb)
               replace HB9 := Aside0.mk (below_step HB9.out hb)
               clear hb))
          have hi_ := HI.out
          have hs_ := hw.out i HI.out.1 q_.out
          have hq_ := q_.out
          go_roundg (gk - 1)
          case measure => omega
          case rel => exact ⟨(wrap64 (i + 1)), (by rw [hsm.out i hi_.1 hq_]), (by rw [hdp.out i hi_.1 hq_, if_pos (by have := c26a.out; omega)]), (by rw [hbg.out i hi_.1 hq_]), rfl, ⟨by omega, by omega⟩, ⟨HB0.out⟩, ⟨HB9.out⟩⟩
        · have c26b0 : decide (dp i < dz i) = false := decide_eq_false c26
          have c26a := Aside0.mk c26
          clear c26
          (first | rw [c26b0] | (simp only [i64_w, i32_w]; rw [c26b0]) | skip)
          go_wp2
          have hi_ := HI.out
          have hs_ := hw.out i HI.out.1 q_.out
          have hq_ := q_.out
          go_roundg (gk - 1)
          case measure => omega
          case rel => exact ⟨(wrap64 (i + 1)), (by rw [hsm.out i hi_.1 hq_]), (by rw [hdp.out i hi_.1 hq_, if_neg (by have := c26a.out; omega)]), (by rw [hbg.out i hi_.1 hq_]), rfl, ⟨by omega, by omega⟩, ⟨HB0.out⟩, ⟨HB9.out⟩⟩
      · have c14b0 : decide (i < (t2.length : Int)) = false := decide_eq_false c14
        obtain rfl : i = (t2.length : Int) := by have := HI.out; omega
        clear c14 HI
        have hx3_0 : wr.cell? ⟨gb3_7, 0, none⟩ = some (.int .i64 t0) := (blk_cell (blk_below BK3_7.out HB9.out) 0).trans rfl
        have hx3_1 : wr.cell? ⟨gb3_7, 1, none⟩ = some (.slice A3_0 t1.length c3_0) := (blk_cell (blk_below BK3_7.out HB9.out) 1).trans rfl
        have hx3_2 : wr.cell? ⟨gb3_7, 2, none⟩ = some (.slice A3_1 t2.length c3_1) := (blk_cell (blk_below BK3_7.out HB9.out) 2).trans rfl
        go_upto_region 16 with (fail)
        clear hx3_0 hx3_1 hx3_2
        replace HB0 := Aside0.mk (below_drew1 HB0.out)
        replace HB9 := Aside0.mk (below_drew1 HB9.out)
        refine start_ (n := 31) (S := fun w' => w'.cell? ⟨gb3_7, 0, none⟩ = some (.int .i64 t0) ∧ w'.cell? ⟨gb3_7, 1, none⟩ = some (.slice A3_0 t1.length c3_0) ∧ w'.cell? ⟨gb3_7, 2, none⟩ = some (.slice A3_1 t2.length c3_1)) (ds := []) #[false, false, false, false, false, false, false, false, false, false, false, false, false, false, false, false, false, false, false, false, false, false, false, false, false, false, false, false, false, false, false] (by kernel_rfl) rfl rfl ⟨(blk_cell (blk_below BK3_7.out HB9.out) 0).trans rfl, (blk_cell (blk_below BK3_7.out HB9.out) 1).trans rfl, (blk_cell (blk_below BK3_7.out HB9.out) 2).trans rfl⟩ (fun hHeld => ?_); refine with_tabW laws_FnTypes.tab16 laws_FnTypes.bits16 (fun HT_ HW_ => ?_)
        generalize wr.drew = w22 at HB0 HB9 hHeld ⊢
        refine take_ (i := 0) (N := some 61) (v := ?_) (a' := ?_) #[true, false, false, false, false, false, false, false, false, false, false, false, false, false, false, false, false, false, false, false, false, false, false, false, false, false, false, false, false, false, false] rfl rfl (take_ofW HT_.out HW_.out (by kernel_rfl)) (fun _ _ _ h => h) (Or.inl ⟨by rfl, ?_⟩) hHeld ?_ ?_
        rotate_left
        · rintro w' ⟨s0, s1, s2⟩
          go_simp
          with_reducible rfl
        rotate_left
        · simp only [Act.put, List.setIfInBounds_toArray, List.set_cons_zero, List.set_cons_succ, i64_w, i32_w]
          rfl
        refine pure_ (i := 2) (N := some 63) (v := ?_) (a' := ?_) #[true, false, true, false, false, false, false, false, false, false, false, false, false, false, false, false, false, false, false, false, false, false, false, false, false, false, false, false, false, false, false] rfl rfl (any_of HT_.out (by kernel_rfl)) (fun _ _ _ h => h) (Or.inl ⟨by rfl, ?_⟩) ?_ ?_
        rotate_left
        · intro w'
          go_simp
          with_reducible rfl
        rotate_left
        · simp only [Act.put, List.setIfInBounds_toArray, List.set_cons_zero, List.set_cons_succ, i64_w, i32_w]
          rfl
        refine one_ (i := 1) (N := some 62) #[true, true, true, false, false, false, false, false, false, false, false, false, false, false, false, false, false, false, false, false, false, false, false, false, false, false, false, false, false, false, false] rfl rfl (one_of HT_.out (by kernel_rfl)) (by decide) (fun K hK => ?_)
        refine goes_ Try.func6 (by kernel_rfl) rfl #[.agg #[.int .i64 t0, .slice A3_0 t1.length c3_0, .slice A3_1 t2.length c3_1]] (by rfl) rfl rfl (by (try simp only [List.map_toArray, List.map_cons, List.map_nil]); first | done | rfl | (simp only [List.length_drop, List.length_take]; rfl)) ?_
        have hh := p2
        obtain ⟨k23, e23⟩ := hh
        (with_reducible refine (impl_SizeOfType.calls k23 t0 _ _ t1 _ _ t2 (sm (t2.length : Int)) _ (Kd.C_below HR3_0.out HB9.out) HC3_0.out (Kd.C_below HR3_1.out HB9.out) HC3_1.out e23).mono ?_)
        rintro e w24 ⟨rfl, hb⟩
        refine ⟨_, rfl, ?_⟩
        clear e23
        replace HB0 := Aside0.mk (below_step HB0.out hb)
        replace HB9 := Aside0.mk (below_step HB9.out hb)
        clear hb
        refine hK.out _ _ ⟨(blk_cell (blk_below BK3_7.out HB9.out) 0).trans rfl, (blk_cell (blk_below BK3_7.out HB9.out) 1).trans rfl, (blk_cell (blk_below BK3_7.out HB9.out) 2).trans rfl⟩ (fun hHeld => ?_)
        clear hK K
        refine norm_ (a' := ?_) ?_ ?_
        rotate_left
        · show Act.put _ (some 62) _ = _
          simp only [Act.put, List.setIfInBounds_toArray, List.set_cons_zero, List.set_cons_succ, i64_w, i32_w]
          rfl
        refine pure_ (i := 3) (N := some 64) (v := ?_) (a' := ?_) #[true, true, true, true, false, false, false, false, false, false, false, false, false, false, false, false, false, false, false, false, false, false, false, false, false, false, false, false, false, false, false] rfl rfl (any_of HT_.out (by kernel_rfl)) (fun _ _ _ h => h) (Or.inl ⟨by rfl, ?_⟩) ?_ ?_
        rotate_left
        · intro w'
          go_simp
          with_reducible rfl
        rotate_left
        · simp only [Act.put, List.setIfInBounds_toArray, List.set_cons_zero, List.set_cons_succ, i64_w, i32_w]
          rfl
        refine pure_ (i := 4) (N := some 65) (v := ?_) (a' := ?_) #[true, true, true, true, true, false, false, false, false, false, false, false, false, false, false, false, false, false, false, false, false, false, false, false, false, false, false, false, false, false, false] rfl rfl (any_of HT_.out (by kernel_rfl)) (fun _ _ _ h => h) (Or.inl ⟨by rfl, ?_⟩) ?_ ?_
        rotate_left
        · intro w'
          go_simp
          with_reducible rfl
        rotate_left
        · simp only [Act.put, List.setIfInBounds_toArray, List.set_cons_zero, List.set_cons_succ, i64_w, i32_w]
          rfl
        refine take_ (i := 5) (N := some 66) (v := ?_) (a' := ?_) #[true, true, true, true, true, true, false, false, false, false, false, false, false, false, false, false, false, false, false, false, false, false, false, false, false, false, false, false, false, false, false] rfl rfl (take_ofW HT_.out HW_.out (by kernel_rfl)) (fun _ _ _ h => h) (Or.inl ⟨by rfl, ?_⟩) hHeld ?_ ?_
        rotate_left
        · rintro w' ⟨s0, s1, s2⟩
          go_simp
          with_reducible rfl
        rotate_left
        · simp only [Act.put, List.setIfInBounds_toArray, List.set_cons_zero, List.set_cons_succ, i64_w, i32_w]
          rfl
        refine pure_ (i := 7) (N := some 68) (v := ?_) (a' := ?_) #[true, true, true, true, true, true, false, true, false, false, false, false, false, false, false, false, false, false, false, false, false, false, false, false, false, false, false, false, false, false, false] rfl rfl (any_of HT_.out (by kernel_rfl)) (fun _ _ _ h => h) (Or.inl ⟨by rfl, ?_⟩) ?_ ?_
        rotate_left
        · intro w'
          go_simp
          with_reducible rfl
        rotate_left
        · simp only [Act.put, List.setIfInBounds_toArray, List.set_cons_zero, List.set_cons_succ, i64_w, i32_w]
          rfl
        refine pure_ (i := 8) (N := some 69) (v := ?_) (a' := ?_) #[true, true, true, true, true, true, false, true, true, false, false, false, false, false, false, false, false, false, false, false, false, false, false, false, false, false, false, false, false, false, false] rfl rfl (any_of HT_.out (by kernel_rfl)) (fun _ _ _ h => h) (Or.inl ⟨by rfl, ?_⟩) ?_ ?_
        rotate_left
        · intro w'
          go_simp
          with_reducible rfl
        rotate_left
        · simp only [Act.put, List.setIfInBounds_toArray, List.set_cons_zero, List.set_cons_succ, i64_w, i32_w]
          rfl
        refine one_ (i := 6) (N := some 67) #[true, true, true, true, true, true, true, true, true, false, false, false, false, false, false, false, false, false, false, false, false, false, false, false, false, false, false, false, false, false, false] rfl rfl (one_of HT_.out (by kernel_rfl)) (by decide) (fun K hK => ?_)
        refine goes_ Try.func8 (by kernel_rfl) rfl #[.agg #[.int .i64 t0, .slice A3_0 t1.length c3_0, .slice A3_1 t2.length c3_1]] (by rfl) rfl rfl (by (try simp only [List.map_toArray, List.map_cons, List.map_nil]); first | done | rfl | (simp only [List.length_drop, List.length_take]; rfl)) ?_
        have hh := p3
        obtain ⟨k25, e25⟩ := hh
        (with_reducible refine (impl_DepthOfType.calls k25 t0 _ _ t1 _ _ t2 (wrap64 ((dp (t2.length : Int)) + 1)) _ (Kd.C_below HR3_0.out HB9.out) HC3_0.out (Kd.C_below HR3_1.out HB9.out) HC3_1.out e25).mono ?_)
        rintro e w26 ⟨rfl, hb⟩
        refine ⟨_, rfl, ?_⟩
        clear e25
        replace HB0 := Aside0.mk (below_step HB0.out hb)
        replace HB9 := Aside0.mk (below_step HB9.out hb)
        clear hb
        refine hK.out _ _ ⟨(blk_cell (blk_below BK3_7.out HB9.out) 0).trans rfl, (blk_cell (blk_below BK3_7.out HB9.out) 1).trans rfl, (blk_cell (blk_below BK3_7.out HB9.out) 2).trans rfl⟩ (fun hHeld => ?_)
        clear hK K
        refine norm_ (a' := ?_) ?_ ?_
        rotate_left
        · show Act.put _ (some 67) _ = _
          simp only [Act.put, List.setIfInBounds_toArray, List.set_cons_zero, List.set_cons_succ, i64_w, i32_w]
          rfl
        refine pure_ (i := 9) (N := some 70) (v := ?_) (a' := ?_) #[true, true, true, true, true, true, true, true, true, true, false, false, false, false, false, false, false, false, false, false, false, false, false, false, false, false, false, false, false, false, false] rfl rfl (any_of HT_.out (by kernel_rfl)) (fun _ _ _ h => h) (Or.inl ⟨by rfl, ?_⟩) ?_ ?_
        rotate_left
        · intro w'
          go_simp
          with_reducible rfl
        rotate_left
        · simp only [Act.put, List.setIfInBounds_toArray, List.set_cons_zero, List.set_cons_succ, i64_w, i32_w]
          rfl
        refine pure_ (i := 10) (N := some 71) (v := ?_) (a' := ?_) #[true, true, true, true, true, true, true, true, true, true, true, false, false, false, false, false, false, false, false, false, false, false, false, false, false, false, false, false, false, false, false] rfl rfl (any_of HT_.out (by kernel_rfl)) (fun _ _ _ h => h) (Or.inl ⟨by rfl, ?_⟩) ?_ ?_
        rotate_left
        · intro w'
          go_simp
          with_reducible rfl
        rotate_left
        · simp only [Act.put, List.setIfInBounds_toArray, List.set_cons_zero, List.set_cons_succ, i64_w, i32_w]
          rfl
        refine pure_ (i := 11) (N := some 72) (v := ?_) (a' := ?_) #[true, true, true, true, true, true, true, true, true, true, true, true, false, false, false, false, false, false, false, false, false, false, false, false, false, false, false, false, false, false, false] rfl rfl (any_of HT_.out (by kernel_rfl)) (fun _ _ _ h => h) (Or.inl ⟨by rfl, ?_⟩) ?_ ?_
        rotate_left
        · intro w'
          go_simp
          with_reducible rfl
        rotate_left
        · simp only [Act.put, List.setIfInBounds_toArray, List.set_cons_zero, List.set_cons_succ, i64_w, i32_w]
          rfl
        refine take_ (i := 12) (N := some 73) (v := ?_) (a' := ?_) #[true, true, true, true, true, true, true, true, true, true, true, true, true, false, false, false, false, false, false, false, false, false, false, false, false, false, false, false, false, false, false] rfl rfl (take_ofW HT_.out HW_.out (by kernel_rfl)) (fun _ _ _ h => h) (Or.inl ⟨by rfl, ?_⟩) hHeld ?_ ?_
        rotate_left
        · rintro w' ⟨s0, s1, s2⟩
          go_simp
          with_reducible rfl
        rotate_left
        · simp only [Act.put, List.setIfInBounds_toArray, List.set_cons_zero, List.set_cons_succ, i64_w, i32_w]
          rfl
        refine pure_ (i := 14) (N := some 75) (v := ?_) (a' := ?_) #[true, true, true, true, true, true, true, true, true, true, true, true, true, false, true, false, false, false, false, false, false, false, false, false, false, false, false, false, false, false, false] rfl rfl (any_of HT_.out (by kernel_rfl)) (fun _ _ _ h => h) (Or.inl ⟨by rfl, ?_⟩) ?_ ?_
        rotate_left
        · intro w'
          go_simp
          with_reducible rfl
        rotate_left
        · simp only [Act.put, List.setIfInBounds_toArray, List.set_cons_zero, List.set_cons_succ, i64_w, i32_w]
          rfl
        refine one_ (i := 13) (N := some 74) #[true, true, true, true, true, true, true, true, true, true, true, true, true, true, true, false, false, false, false, false, false, false, false, false, false, false, false, false, false, false, false] rfl rfl (one_of HT_.out (by kernel_rfl)) (by decide) (fun K hK => ?_)
        refine goes_ Try.func7 (by kernel_rfl) rfl #[.agg #[.int .i64 t0, .slice A3_0 t1.length c3_0, .slice A3_1 t2.length c3_1]] (by rfl) rfl rfl (by (try simp only [List.map_toArray, List.map_cons, List.map_nil]); first | done | rfl | (simp only [List.length_drop, List.length_take]; rfl)) ?_
        have hh := p4
        obtain ⟨k27, e27⟩ := hh
        (with_reducible refine (impl_CountBags.calls k27 t0 _ _ t1 _ _ t2 (bg (t2.length : Int)) _ (Kd.C_below HR3_0.out HB9.out) HC3_0.out (Kd.C_below HR3_1.out HB9.out) HC3_1.out e27).mono ?_)
        rintro e w28 ⟨rfl, hb⟩
        refine ⟨_, rfl, ?_⟩
        clear e27
        replace HB0 := Aside0.mk (below_step HB0.out hb)
        replace HB9 := Aside0.mk (below_step HB9.out hb)
        clear hb
        refine hK.out _ _ ⟨(blk_cell (blk_below BK3_7.out HB9.out) 0).trans rfl, (blk_cell (blk_below BK3_7.out HB9.out) 1).trans rfl, (blk_cell (blk_below BK3_7.out HB9.out) 2).trans rfl⟩ (fun hHeld => ?_)
        clear hK K
        refine norm_ (a' := ?_) ?_ ?_
        rotate_left
        · show Act.put _ (some 74) _ = _
          simp only [Act.put, List.setIfInBounds_toArray, List.set_cons_zero, List.set_cons_succ, i64_w, i32_w]
          rfl
        refine pure_ (i := 15) (N := some 76) (v := ?_) (a' := ?_) #[true, true, true, true, true, true, true, true, true, true, true, true, true, true, true, true, false, false, false, false, false, false, false, false, false, false, false, false, false, false, false] rfl rfl (any_of HT_.out (by kernel_rfl)) (fun _ _ _ h => h) (Or.inl ⟨by rfl, ?_⟩) ?_ ?_
        rotate_left
        · intro w'
          go_simp
          with_reducible rfl
        rotate_left
        · simp only [Act.put, List.setIfInBounds_toArray, List.set_cons_zero, List.set_cons_succ, i64_w, i32_w]
          rfl
        refine pure_ (i := 16) (N := some 77) (v := ?_) (a' := ?_) #[true, true, true, true, true, true, true, true, true, true, true, true, true, true, true, true, true, false, false, false, false, false, false, false, false, false, false, false, false, false, false] rfl rfl (any_of HT_.out (by kernel_rfl)) (fun _ _ _ h => h) (Or.inl ⟨by rfl, ?_⟩) ?_ ?_
        rotate_left
        · intro w'
          go_simp
          with_reducible rfl
        rotate_left
        · simp only [Act.put, List.setIfInBounds_toArray, List.set_cons_zero, List.set_cons_succ, i64_w, i32_w]
          rfl
        refine pure_ (i := 17) (N := some 78) (v := ?_) (a' := ?_) #[true, true, true, true, true, true, true, true, true, true, true, true, true, true, true, true, true, true, false, false, false, false, false, false, false, false, false, false, false, false, false] rfl rfl (any_of HT_.out (by kernel_rfl)) (fun _ _ _ h => h) (Or.inl ⟨by rfl, ?_⟩) ?_ ?_
        rotate_left
        · intro w'
          go_simp
          with_reducible rfl
        rotate_left
        · simp only [Act.put, List.setIfInBounds_toArray, List.set_cons_zero, List.set_cons_succ, i64_w, i32_w]
          rfl
        refine take_ (i := 18) (N := some 79) (v := ?_) (a' := ?_) #[true, true, true, true, true, true, true, true, true, true, true, true, true, true, true, true, true, true, true, false, false, false, false, false, false, false, false, false, false, false, false] rfl rfl (take_ofW HT_.out HW_.out (by kernel_rfl)) (fun _ _ _ h => h) (Or.inl ⟨by rfl, ?_⟩) hHeld ?_ ?_
        rotate_left
        · rintro w' ⟨s0, s1, s2⟩
          go_simp
          with_reducible rfl
        rotate_left
        · simp only [Act.put, List.setIfInBounds_toArray, List.set_cons_zero, List.set_cons_succ, i64_w, i32_w]
          rfl
        refine take_ (i := 20) (N := some 81) (v := ?_) (a' := ?_) #[true, true, true, true, true, true, true, true, true, true, true, true, true, true, true, true, true, true, true, false, true, false, false, false, false, false, false, false, false, false, false] rfl rfl (take_ofW HT_.out HW_.out (by kernel_rfl)) (fun _ _ _ h => h) (Or.inl ⟨by rfl, ?_⟩) hHeld ?_ ?_
        rotate_left
        · rintro w' ⟨s0, s1, s2⟩
          go_simp
          with_reducible rfl
        rotate_left
        · simp only [Act.put, List.setIfInBounds_toArray, List.set_cons_zero, List.set_cons_succ, i64_w, i32_w]
          rfl
        refine one_ (i := 19) (N := some 80) #[true, true, true, true, true, true, true, true, true, true, true, true, true, true, true, true, true, true, true, true, true, false, false, false, false, false, false, false, false, false, false] rfl rfl (one_of HT_.out (by kernel_rfl)) (by decide) (fun K hK => ?_)
        refine goes_ Try.func9 (by kernel_rfl) rfl #[.agg #[.int .i64 t0, .slice A3_0 t1.length c3_0, .slice A3_1 t2.length c3_1]] (by rfl) rfl rfl (by (try simp only [List.map_toArray, List.map_cons, List.map_nil]); first | done | rfl | (simp only [List.length_drop, List.length_take]; rfl)) ?_
        have hh := p5
        obtain ⟨k29, e29⟩ := hh
        (with_reducible refine (impl_IsValidType.calls k29 t0 _ _ t1 _ _ t2 vV _ (Kd.C_below HR3_0.out HB9.out) HC3_0.out (Kd.C_below HR3_1.out HB9.out) HC3_1.out e29).mono ?_)
        rintro e w30 ⟨rfl, hb⟩
        refine ⟨_, rfl, ?_⟩
        clear e29
        replace HB0 := Aside0.mk (below_step HB0.out hb)
        replace HB9 := Aside0.mk (below_step HB9.out hb)
        clear hb
        refine hK.out _ _ ⟨(blk_cell (blk_below BK3_7.out HB9.out) 0).trans rfl, (blk_cell (blk_below BK3_7.out HB9.out) 1).trans rfl, (blk_cell (blk_below BK3_7.out HB9.out) 2).trans rfl⟩ (fun hHeld => ?_)
        clear hK K
        refine norm_ (a' := ?_) ?_ ?_
        rotate_left
        · show Act.put _ (some 80) _ = _
          simp only [Act.put, List.setIfInBounds_toArray, List.set_cons_zero, List.set_cons_succ, i64_w, i32_w]
          rfl
        refine one_ (i := 21) (N := some 82) #[true, true, true, true, true, true, true, true, true, true, true, true, true, true, true, true, true, true, true, true, true, true, false, false, false, false, false, false, false, false, false] rfl rfl (one_of HT_.out (by kernel_rfl)) (by decide) (fun K hK => ?_)
        refine goes_ Try.func10 (by kernel_rfl) rfl #[.agg #[.int .i64 t0, .slice A3_0 t1.length c3_0, .slice A3_1 t2.length c3_1]] (by rfl) rfl rfl (by (try simp only [List.map_toArray, List.map_cons, List.map_nil]); first | done | rfl | (simp only [List.length_drop, List.length_take]; rfl)) ?_
        have hh := p6
        obtain ⟨k31, e31⟩ := hh
        (with_reducible refine (spec_IsValidType.calls k31 t0 _ _ t1 _ _ t2 vV _ (Kd.C_below HR3_0.out HB9.out) HC3_0.out (Kd.C_below HR3_1.out HB9.out) HC3_1.out e31).mono ?_)
        rintro e w32 ⟨rfl, hb⟩
        refine ⟨_, rfl, ?_⟩
        clear e31
        replace HB0 := Aside0.mk (below_step HB0.out hb)
        replace HB9 := Aside0.mk (below_step HB9.out hb)
        clear hb
        refine hK.out _ _ ⟨(blk_cell (blk_below BK3_7.out HB9.out) 0).trans rfl, (blk_cell (blk_below BK3_7.out HB9.out) 1).trans rfl, (blk_cell (blk_below BK3_7.out HB9.out) 2).trans rfl⟩ (fun hHeld => ?_)
        clear hK K
        refine norm_ (a' := ?_) ?_ ?_
        rotate_left
        · show Act.put _ (some 82) _ = _
          simp only [Act.put, List.setIfInBounds_toArray, List.set_cons_zero, List.set_cons_succ, i64_w, i32_w]
          rfl
        refine pure_ (i := 22) (N := some 83) (v := ?_) (a' := ?_) #[true, true, true, true, true, true, true, true, true, true, true, true, true, true, true, true, true, true, true, true, true, true, true, false, false, false, false, false, false, false, false] rfl rfl (any_of HT_.out (by kernel_rfl)) (fun _ _ _ h => h) (Or.inl ⟨by rfl, ?_⟩) ?_ ?_
        rotate_left
        · intro w'
          go_simp
          with_reducible rfl
        rotate_left
        · simp only [Act.put, List.setIfInBounds_toArray, List.set_cons_zero, List.set_cons_succ, i64_w, i32_w]
          rfl
        refine pure_ (i := 23) (N := some 84) (v := ?_) (a' := ?_) #[true, true, true, true, true, true, true, true, true, true, true, true, true, true, true, true, true, true, true, true, true, true, true, true, false, false, false, false, false, false, false] rfl rfl (any_of HT_.out (by kernel_rfl)) (fun _ _ _ h => h) (Or.inl ⟨by rfl, ?_⟩) ?_ ?_
        rotate_left
        · intro w'
          go_simp
          with_reducible rfl
        rotate_left
        · simp only [Act.put, List.setIfInBounds_toArray, List.set_cons_zero, List.set_cons_succ, i64_w, i32_w]
          rfl
        refine pure_ (i := 24) (N := some 85) (v := ?_) (a' := ?_) #[true, true, true, true, true, true, true, true, true, true, true, true, true, true, true, true, true, true, true, true, true, true, true, true, true, false, false, false, false, false, false] rfl rfl (any_of HT_.out (by kernel_rfl)) (fun _ _ _ h => h) (Or.inl ⟨by rfl, ?_⟩) ?_ ?_
        rotate_left
        · intro w'
          go_simp
          with_reducible rfl
        rotate_left
        · simp only [Act.put, List.setIfInBounds_toArray, List.set_cons_zero, List.set_cons_succ, i64_w, i32_w]
          rfl
        refine take_ (i := 25) (N := some 86) (v := ?_) (a' := ?_) #[true, true, true, true, true, true, true, true, true, true, true, true, true, true, true, true, true, true, true, true, true, true, true, true, true, true, false, false, false, false, false] rfl rfl (take_ofW HT_.out HW_.out (by kernel_rfl)) (fun _ _ _ h => h) (Or.inl ⟨by rfl, ?_⟩) hHeld ?_ ?_
        rotate_left
        · rintro w' ⟨s0, s1, s2⟩
          go_simp
          with_reducible rfl
        rotate_left
        · simp only [Act.put, List.setIfInBounds_toArray, List.set_cons_zero, List.set_cons_succ, i64_w, i32_w]
          rfl
        refine take_ (i := 27) (N := some 88) (v := ?_) (a' := ?_) #[true, true, true, true, true, true, true, true, true, true, true, true, true, true, true, true, true, true, true, true, true, true, true, true, true, true, false, true, false, false, false] rfl rfl (take_ofW HT_.out HW_.out (by kernel_rfl)) (fun _ _ _ h => h) (Or.inl ⟨by rfl, ?_⟩) hHeld ?_ ?_
        rotate_left
        · rintro w' ⟨s0, s1, s2⟩
          go_simp
          with_reducible rfl
        rotate_left
        · simp only [Act.put, List.setIfInBounds_toArray, List.set_cons_zero, List.set_cons_succ, i64_w, i32_w]
          rfl
        refine one_ (i := 26) (N := some 87) #[true, true, true, true, true, true, true, true, true, true, true, true, true, true, true, true, true, true, true, true, true, true, true, true, true, true, true, true, false, false, false] rfl rfl (one_of HT_.out (by kernel_rfl)) (by decide) (fun K hK => ?_)
        refine goes_ Try.func11 (by kernel_rfl) rfl #[.agg #[.int .i64 t0, .slice A3_0 t1.length c3_0, .slice A3_1 t2.length c3_1]] (by rfl) rfl rfl (by (try simp only [List.map_toArray, List.map_cons, List.map_nil]); first | done | rfl | (simp only [List.length_drop, List.length_take]; rfl)) ?_
        have hh := p7
        obtain ⟨k33, e33⟩ := hh
        (with_reducible refine (impl_IsData.calls k33 t0 _ _ t1 _ _ t2 vD _ (Kd.C_below HR3_0.out HB9.out) HC3_0.out (Kd.C_below HR3_1.out HB9.out) HC3_1.out e33).mono ?_)
        rintro e w34 ⟨rfl, hb⟩
        refine ⟨_, rfl, ?_⟩
        clear e33
        replace HB0 := Aside0.mk (below_step HB0.out hb)
        replace HB9 := Aside0.mk (below_step HB9.out hb)
        clear hb
        refine hK.out _ _ ⟨(blk_cell (blk_below BK3_7.out HB9.out) 0).trans rfl, (blk_cell (blk_below BK3_7.out HB9.out) 1).trans rfl, (blk_cell (blk_below BK3_7.out HB9.out) 2).trans rfl⟩ (fun hHeld => ?_)
        clear hK K
        refine norm_ (a' := ?_) ?_ ?_
        rotate_left
        · show Act.put _ (some 87) _ = _
          simp only [Act.put, List.setIfInBounds_toArray, List.set_cons_zero, List.set_cons_succ, i64_w, i32_w]
          rfl
        refine one_ (i := 28) (N := some 89) #[true, true, true, true, true, true, true, true, true, true, true, true, true, true, true, true, true, true, true, true, true, true, true, true, true, true, true, true, true, false, false] rfl rfl (one_of HT_.out (by kernel_rfl)) (by decide) (fun K hK => ?_)
        refine goes_ Try.func12 (by kernel_rfl) rfl #[.agg #[.int .i64 t0, .slice A3_0 t1.length c3_0, .slice A3_1 t2.length c3_1]] (by rfl) rfl rfl (by (try simp only [List.map_toArray, List.map_cons, List.map_nil]); first | done | rfl | (simp only [List.length_drop, List.length_take]; rfl)) ?_
        have hh := p8
        obtain ⟨k35, e35⟩ := hh
        (with_reducible refine (spec_IsData.calls k35 t0 _ _ t1 _ _ t2 vD _ (Kd.C_below HR3_0.out HB9.out) HC3_0.out (Kd.C_below HR3_1.out HB9.out) HC3_1.out e35).mono ?_)
        rintro e w36 ⟨rfl, hb⟩
        refine ⟨_, rfl, ?_⟩
        clear e35
        replace HB0 := Aside0.mk (below_step HB0.out hb)
        replace HB9 := Aside0.mk (below_step HB9.out hb)
        clear hb
        refine hK.out _ _ ⟨(blk_cell (blk_below BK3_7.out HB9.out) 0).trans rfl, (blk_cell (blk_below BK3_7.out HB9.out) 1).trans rfl, (blk_cell (blk_below BK3_7.out HB9.out) 2).trans rfl⟩ (fun hHeld => ?_)
        clear hK K
        refine norm_ (a' := ?_) ?_ ?_
        rotate_left
        · show Act.put _ (some 89) _ = _
          simp only [Act.put, List.setIfInBounds_toArray, List.set_cons_zero, List.set_cons_succ, i64_w, i32_w]
          rfl
        refine pure_ (i := 29) (N := some 90) (v := ?_) (a' := ?_) #[true, true, true, true, true, true, true, true, true, true, true, true, true, true, true, true, true, true, true, true, true, true, true, true, true, true, true, true, true, true, false] rfl rfl (any_of HT_.out (by kernel_rfl)) (fun _ _ _ h => h) (Or.inl ⟨by rfl, ?_⟩) ?_ ?_
        rotate_left
        · intro w'
          go_simp
          with_reducible rfl
        rotate_left
        · simp only [Act.put, List.setIfInBounds_toArray, List.set_cons_zero, List.set_cons_succ, i64_w, i32_w]
          rfl
        refine pure_ (i := 30) (N := some 91) (v := ?_) (a' := ?_) #[true, true, true, true, true, true, true, true, true, true, true, true, true, true, true, true, true, true, true, true, true, true, true, true, true, true, true, true, true, true, true] rfl rfl (any_of HT_.out (by kernel_rfl)) (fun _ _ _ h => h) (Or.inl ⟨by rfl, ?_⟩) ?_ ?_
        rotate_left
        · intro w'
          go_simp
          with_reducible rfl
        rotate_left
        · simp only [Act.put, List.setIfInBounds_toArray, List.set_cons_zero, List.set_cons_succ, i64_w, i32_w]
          rfl
        refine done_ (done_of HT_.out (by kernel_rfl)) ?_
        clear hHeld HT_ HW_
        go_upto_region 23 with (first
          | ((with_reducible refine gate_callee (f := 13) rfl ?_)
             refine goesL_ (some 93) rfl rfl Try.func13 (by kernel_rfl) rfl #[.slice Al0 l0.length cl0] rfl (by (try simp only [List.map_toArray, List.map_cons, List.map_nil]); first | done | rfl | (simp only [List.length_drop, List.length_take]; rfl)) ?_
             have hh := p9
             obtain ⟨k37, e37⟩ := hh
             (with_reducible refine (spec_DrawIsRow.calls k37 _ _ l0 r0 r1 r2 _ (Kd.C_below HRl0.out HB0.out) HCl0.out e37).mono ?_)
             rintro e w38 ⟨v37_0, v37_1, rfl, ho37_0, ho37_1, hb⟩
             refine ⟨_, rfl, ?_⟩
             clear e37
             replace HB0 := Aside0.mk (below_step HB0.out hb)
             replace HB9 := Aside0.mk (below_step HB9.out hb)
             clear hb
             have HB39 := Aside0.mk (Below.refl w38.heap.size w38)
             obtain ⟨A37_0, c37_0, ev_⟩ := Kd.R_slice ho37_0
             subst ev_
             have HR37_0 := Aside0.mk (Kd.R_reads' ho37_0).2.2
             have HC37_0 := Aside0.mk (Kd.R_reads' ho37_0).2.1
             clear ho37_0
             obtain ⟨A37_1, c37_1, ev_⟩ := Kd.N_slice ho37_1
             subst ev_
             have HR37_1 := Aside0.mk (Kd.N_reads' ho37_1).2.2
             have HC37_1 := Aside0.mk (Kd.N_reads' ho37_1).2.1
             clear ho37_1)
          | ((with_reducible refine gate_dst (N := 8) rfl ?_)
             refine box_event ?hg (N := 8) ?hd (cs := #[.int .i64 0, .slice none 0 0, .slice none 0 0]) (t := 27) ?hr ?_; (case hd => rfl); (case hg => rfl); (case hr => first | (go_simp; done) | (go_simp; rfl))
             intro gb8_41 hg w40 hbox hbA
             have HBA := Aside0.mk hbA
             have HGgb8_41 := Aside0.mk (show w38.heap.size ≤ gb8_41 by rw [hg]; exact Nat.le_refl _)
             have HXgb8_41 := Aside0.mk hbox
             clear hbA hg hbox
             have hx8_0 : w40.cell? ⟨gb8_41, 0, none⟩ = some (.int .i64 0) := (blk_cell HXgb8_41.out 0).trans rfl
             have hx8_1 : w40.cell? ⟨gb8_41, 1, none⟩ = some (.slice none 0 0) := (blk_cell HXgb8_41.out 1).trans rfl
             have hx8_2 : w40.cell? ⟨gb8_41, 2, none⟩ = some (.slice none 0 0) := (blk_cell HXgb8_41.out 2).trans rfl
             have hf8_0 := blk_frozen HXgb8_41.out 0
             have hf8_1 := blk_frozen HXgb8_41.out 1
             have hf8_2 := blk_frozen HXgb8_41.out 2)
          | ((with_reducible refine gate_store (t := 27) (p := 8) rfl ?_)
             refine store_event (t := 27) (p := 8) (v := ?vo_w42) (w1 := (((w40.setCell ⟨gb8_41, 0, none⟩ (.int .i64 r0)).setCell ⟨gb8_41, 1, none⟩ (.slice A37_0 r1.length c37_0)).setCell ⟨gb8_41, 2, none⟩ (.slice A37_1 r2.length c37_1))) ?hg ?ho ?hn ?hr ?_; (case ho => rfl); (case hg => rfl); (case hn => rfl); (case hr => first | (go_simp; done) | (go_simp; rfl)); intro w42 hw
             replace HBA := Aside0.mk (show Below w38.heap.size w38 w42 by rw [hw]; exact below_set (below_set (below_set (HBA.out) HGgb8_41.out) HGgb8_41.out) HGgb8_41.out)
             replace HXgb8_41 := Aside0.mk (show w42.heap[gb8_41]? = some (.cells #[.int .i64 r0, .slice A37_0 r1.length c37_0, .slice A37_1 r2.length c37_1] 27 (0, 0)) by rw [hw]; exact blk_put (cs := #[.int .i64 r0, .slice A37_0 r1.length c37_0, .slice none 0 0]) (blk_put (cs := #[.int .i64 r0, .slice none 0 0, .slice none 0 0]) (blk_put (cs := #[.int .i64 0, .slice none 0 0, .slice none 0 0]) (HXgb8_41.out) 0 (.int .i64 r0) rfl) 1 (.slice A37_0 r1.length c37_0) rfl) 2 (.slice A37_1 r2.length c37_1) rfl)
             clear hw hx8_0 hx8_1 hx8_2 hf8_0 hf8_1 hf8_2
             have hb := HBA.out
             replace HB0 := Aside0.mk (below_step HB0.out hb)
             replace HB9 := Aside0.mk (below_step HB9.out hb)
             replace HB39 := Aside0.mk (below_step HB39.out hb)
             have HB43 := Aside0.mk (Below.refl w42.heap.size w42)
             replace HR37_0 := Aside0.mk (Kd.C_below HR37_0.out hb)
             replace HR37_1 := Aside0.mk (Kd.C_below HR37_1.out hb)
             clear HB39
             have BK8_41 := HXgb8_41
             clear HXgb8_41 HGgb8_41
             clear HBA hb)
          | ((with_reducible refine gate_callee (f := 14) rfl ?_)
             refine goesL_ (some 96) rfl rfl Try.func14 (by kernel_rfl) rfl #[.slice Al0 l0.length cl0] rfl (by (try simp only [List.map_toArray, List.map_cons, List.map_nil]); first | done | rfl | (simp only [List.length_drop, List.length_take]; rfl)) ?_
             have hh := p10
             obtain ⟨k44, e44⟩ := hh
             (with_reducible refine (spec_DrawFieldType.calls k44 _ _ l0 x0 x1 x2 lb _ (Kd.C_below HRl0.out HB0.out) HCl0.out e44).mono ?_)
             rintro e w45 ⟨v44_0, v44_1, rfl, ho44_0, ho44_1, hb⟩
             refine ⟨_, rfl, ?_⟩
             clear e44
             replace HB0 := Aside0.mk (below_step HB0.out hb)
             replace HB9 := Aside0.mk (below_step HB9.out hb)
             replace HB43 := Aside0.mk (below_step HB43.out hb)
             clear hb
             have HB46 := Aside0.mk (Below.refl w45.heap.size w45)
             obtain ⟨A44_0, c44_0, ev_⟩ := Kd.R_slice ho44_0
             subst ev_
             have HR44_0 := Aside0.mk (Kd.R_reads' ho44_0).2.2
             have HC44_0 := Aside0.mk (Kd.R_reads' ho44_0).2.1
             clear ho44_0
             obtain ⟨A44_1, c44_1, ev_⟩ := Kd.N_slice ho44_1
             subst ev_
             have HR44_1 := Aside0.mk (Kd.N_reads' ho44_1).2.2
             have HC44_1 := Aside0.mk (Kd.N_reads' ho44_1).2.1
             clear ho44_1)
          | ((with_reducible refine gate_dst (N := 9) rfl ?_)
             refine box_event ?hg (N := 9) ?hd (cs := #[.int .i64 0, .slice none 0 0, .slice none 0 0]) (t := 27) ?hr ?_; (case hd => rfl); (case hg => rfl); (case hr => first | (go_simp; done) | (go_simp; rfl))
             intro gb9_48 hg w47 hbox hbA
             have HBA := Aside0.mk hbA
             have HGgb9_48 := Aside0.mk (show w45.heap.size ≤ gb9_48 by rw [hg]; exact Nat.le_refl _)
             have HXgb9_48 := Aside0.mk hbox
             clear hbA hg hbox
             have hx9_0 : w47.cell? ⟨gb9_48, 0, none⟩ = some (.int .i64 0) := (blk_cell HXgb9_48.out 0).trans rfl
             have hx9_1 : w47.cell? ⟨gb9_48, 1, none⟩ = some (.slice none 0 0) := (blk_cell HXgb9_48.out 1).trans rfl
             have hx9_2 : w47.cell? ⟨gb9_48, 2, none⟩ = some (.slice none 0 0) := (blk_cell HXgb9_48.out 2).trans rfl
             have hf9_0 := blk_frozen HXgb9_48.out 0
             have hf9_1 := blk_frozen HXgb9_48.out 1
             have hf9_2 := blk_frozen HXgb9_48.out 2)
          | ((with_reducible refine gate_store (t := 27) (p := 9) rfl ?_)
             refine store_event (t := 27) (p := 9) (v := ?vo_w49) (w1 := (((w47.setCell ⟨gb9_48, 0, none⟩ (.int .i64 x0)).setCell ⟨gb9_48, 1, none⟩ (.slice A44_0 x1.length c44_0)).setCell ⟨gb9_48, 2, none⟩ (.slice A44_1 x2.length c44_1))) ?hg ?ho ?hn ?hr ?_; (case ho => rfl); (case hg => rfl); (case hn => rfl); (case hr => first | (go_simp; done) | (go_simp; rfl)); intro w49 hw
             replace HBA := Aside0.mk (show Below w45.heap.size w45 w49 by rw [hw]; exact below_set (below_set (below_set (HBA.out) HGgb9_48.out) HGgb9_48.out) HGgb9_48.out)
             replace HXgb9_48 := Aside0.mk (show w49.heap[gb9_48]? = some (.cells #[.int .i64 x0, .slice A44_0 x1.length c44_0, .slice A44_1 x2.length c44_1] 27 (0, 0)) by rw [hw]; exact blk_put (cs := #[.int .i64 x0, .slice A44_0 x1.length c44_0, .slice none 0 0]) (blk_put (cs := #[.int .i64 x0, .slice none 0 0, .slice none 0 0]) (blk_put (cs := #[.int .i64 0, .slice none 0 0, .slice none 0 0]) (HXgb9_48.out) 0 (.int .i64 x0) rfl) 1 (.slice A44_0 x1.length c44_0) rfl) 2 (.slice A44_1 x2.length c44_1) rfl)
             clear hw hx9_0 hx9_1 hx9_2 hf9_0 hf9_1 hf9_2
             have hb := HBA.out
             replace HB0 := Aside0.mk (below_step HB0.out hb)
             replace HB9 := Aside0.mk (below_step HB9.out hb)
             replace HB43 := Aside0.mk (below_step HB43.out hb)
             replace HB46 := Aside0.mk (below_step HB46.out hb)
             have HB50 := Aside0.mk (Below.refl w49.heap.size w49)
             replace HR44_0 := Aside0.mk (Kd.C_below HR44_0.out hb)
             replace HR44_1 := Aside0.mk (Kd.C_below HR44_1.out hb)
             clear HB46
             have BK9_48 := HXgb9_48
             clear HXgb9_48 HGgb9_48
             clear HBA hb
             have hx9_0 : w49.cell? ⟨gb9_48, 0, none⟩ = some (.int .i64 x0) := (blk_cell (blk_below BK9_48.out HB50.out) 0).trans rfl
             have hx9_1 : w49.cell? ⟨gb9_48, 1, none⟩ = some (.slice A44_0 x1.length c44_0) := (blk_cell (blk_below BK9_48.out HB50.out) 1).trans rfl
             have hx9_2 : w49.cell? ⟨gb9_48, 2, none⟩ = some (.slice A44_1 x2.length c44_1) := (blk_cell (blk_below BK9_48.out HB50.out) 2).trans rfl)
          | ((with_reducible refine gate_callee (f := 15) rfl ?_)
             refine goesL_ (some 102) rfl rfl Try.func15 (by kernel_rfl) rfl #[.agg #[.int .i64 x0, .slice A44_0 x1.length c44_0, .slice A44_1 x2.length c44_1], .string lb] rfl (by (try simp only [List.map_toArray, List.map_cons, List.map_nil]); first | done | rfl | (simp only [List.length_drop, List.length_take]; rfl)) ?_
             have hh := p11
             obtain ⟨k51, e51⟩ := hh
             (with_reducible refine (impl_FieldType.calls k51 x0 _ _ x1 _ _ x2 lb f0 f1 f2 ok _ (Kd.C_below HR44_0.out HB50.out) HC44_0.out (Kd.C_below HR44_1.out HB50.out) HC44_1.out e51).mono ?_)
             rintro e w52 ⟨v51_0, v51_1, rfl, ho51_0, ho51_1, hb⟩
             refine ⟨_, rfl, ?_⟩
             clear e51
             clear hx9_0 hx9_1 hx9_2
             replace HB0 := Aside0.mk (below_step HB0.out hb)
             replace HB9 := Aside0.mk (below_step HB9.out hb)
             replace HB43 := Aside0.mk (below_step HB43.out hb)
             replace HB50 := Aside0.mk (below_step HB50.out hb)
             clear hb
             have HB53 := Aside0.mk (Below.refl w52.heap.size w52)
             obtain ⟨A51_0, c51_0, ev_⟩ := Kd.R_slice ho51_0
             subst ev_
             have HR51_0 := Aside0.mk (Kd.R_reads' ho51_0).2.2
             have HC51_0 := Aside0.mk (Kd.R_reads' ho51_0).2.1
             clear ho51_0
             obtain ⟨A51_1, c51_1, ev_⟩ := Kd.S_slice ho51_1
             subst ev_
             have HR51_1 := Aside0.mk (Kd.S_reads' ho51_1).2.2
             have HC51_1 := Aside0.mk (Kd.S_reads' ho51_1).2.1
             clear ho51_1)
          | ((with_reducible refine gate_dst (N := 11) rfl ?_)
             refine box_event ?hg (N := 11) ?hd (cs := #[.int .i64 0, .slice none 0 0, .slice none 0 0]) (t := 27) ?hr ?_; (case hd => rfl); (case hg => rfl); (case hr => first | (go_simp; done) | (go_simp; rfl))
             intro gb11_55 hg w54 hbox hbA
             have HBA := Aside0.mk hbA
             have HGgb11_55 := Aside0.mk (show w52.heap.size ≤ gb11_55 by rw [hg]; exact Nat.le_refl _)
             have HXgb11_55 := Aside0.mk hbox
             clear hbA hg hbox
             have hx11_0 : w54.cell? ⟨gb11_55, 0, none⟩ = some (.int .i64 0) := (blk_cell HXgb11_55.out 0).trans rfl
             have hx11_1 : w54.cell? ⟨gb11_55, 1, none⟩ = some (.slice none 0 0) := (blk_cell HXgb11_55.out 1).trans rfl
             have hx11_2 : w54.cell? ⟨gb11_55, 2, none⟩ = some (.slice none 0 0) := (blk_cell HXgb11_55.out 2).trans rfl
             have hf11_0 := blk_frozen HXgb11_55.out 0
             have hf11_1 := blk_frozen HXgb11_55.out 1
             have hf11_2 := blk_frozen HXgb11_55.out 2)
          | ((with_reducible refine gate_store (t := 27) (p := 11) rfl ?_)
             refine store_event (t := 27) (p := 11) (v := ?vo_w56) (w1 := (((w54.setCell ⟨gb11_55, 0, none⟩ (.int .i64 f0)).setCell ⟨gb11_55, 1, none⟩ (.slice A51_0 f1.length c51_0)).setCell ⟨gb11_55, 2, none⟩ (.slice A51_1 f2.length c51_1))) ?hg ?ho ?hn ?hr ?_; (case ho => rfl); (case hg => rfl); (case hn => rfl); (case hr => first | (go_simp; done) | (go_simp; rfl)); intro w56 hw
             replace HBA := Aside0.mk (show Below w52.heap.size w52 w56 by rw [hw]; exact below_set (below_set (below_set (HBA.out) HGgb11_55.out) HGgb11_55.out) HGgb11_55.out)
             replace HXgb11_55 := Aside0.mk (show w56.heap[gb11_55]? = some (.cells #[.int .i64 f0, .slice A51_0 f1.length c51_0, .slice A51_1 f2.length c51_1] 27 (0, 0)) by rw [hw]; exact blk_put (cs := #[.int .i64 f0, .slice A51_0 f1.length c51_0, .slice none 0 0]) (blk_put (cs := #[.int .i64 f0, .slice none 0 0, .slice none 0 0]) (blk_put (cs := #[.int .i64 0, .slice none 0 0, .slice none 0 0]) (HXgb11_55.out) 0 (.int .i64 f0) rfl) 1 (.slice A51_0 f1.length c51_0) rfl) 2 (.slice A51_1 f2.length c51_1) rfl)
             clear hw hx11_0 hx11_1 hx11_2 hf11_0 hf11_1 hf11_2
             have hb := HBA.out
             replace HB0 := Aside0.mk (below_step HB0.out hb)
             replace HB9 := Aside0.mk (below_step HB9.out hb)
             replace HB43 := Aside0.mk (below_step HB43.out hb)
             replace HB50 := Aside0.mk (below_step HB50.out hb)
             replace HB53 := Aside0.mk (below_step HB53.out hb)
             have HB57 := Aside0.mk (Below.refl w56.heap.size w56)
             replace HR51_0 := Aside0.mk (Kd.C_below HR51_0.out hb)
             replace HR51_1 := Aside0.mk (Kd.C_below HR51_1.out hb)
             clear HB53
             have BK11_55 := HXgb11_55
             clear HXgb11_55 HGgb11_55
             clear HBA hb
             have hx9_0 : w56.cell? ⟨gb9_48, 0, none⟩ = some (.int .i64 x0) := (blk_cell (blk_below BK9_48.out HB50.out) 0).trans rfl
             have hx9_1 : w56.cell? ⟨gb9_48, 1, none⟩ = some (.slice A44_0 x1.length c44_0) := (blk_cell (blk_below BK9_48.out HB50.out) 1).trans rfl
             have hx9_2 : w56.cell? ⟨gb9_48, 2, none⟩ = some (.slice A44_1 x2.length c44_1) := (blk_cell (blk_below BK9_48.out HB50.out) 2).trans rfl)
          | ((with_reducible refine gate_callee (f := 16) rfl ?_)
             refine goesL_ (some 108) rfl rfl Try.func16 (by kernel_rfl) rfl #[.agg #[.int .i64 x0, .slice A44_0 x1.length c44_0, .slice A44_1 x2.length c44_1], .string lb] rfl (by (try simp only [List.map_toArray, List.map_cons, List.map_nil]); first | done | rfl | (simp only [List.length_drop, List.length_take]; rfl)) ?_
             have hh := p12
             obtain ⟨k58, e58⟩ := hh
             (with_reducible refine (spec_FieldType.calls k58 x0 _ _ x1 _ _ x2 lb g0 g1 g2 ok _ (Kd.C_below HR44_0.out HB50.out) HC44_0.out (Kd.C_below HR44_1.out HB50.out) HC44_1.out e58).mono ?_)
             rintro e w59 ⟨v58_0, v58_1, rfl, ho58_0, ho58_1, hb⟩
             refine ⟨_, rfl, ?_⟩
             clear e58
             clear hx9_0 hx9_1 hx9_2
             replace HB0 := Aside0.mk (below_step HB0.out hb)
             replace HB9 := Aside0.mk (below_step HB9.out hb)
             replace HB43 := Aside0.mk (below_step HB43.out hb)
             replace HB50 := Aside0.mk (below_step HB50.out hb)
             replace HB57 := Aside0.mk (below_step HB57.out hb)
             clear hb
             have HB60 := Aside0.mk (Below.refl w59.heap.size w59)
             obtain ⟨A58_0, c58_0, ev_⟩ := Kd.R_slice ho58_0
             subst ev_
             have HR58_0 := Aside0.mk (Kd.R_reads' ho58_0).2.2
             have HC58_0 := Aside0.mk (Kd.R_reads' ho58_0).2.1
             clear ho58_0
             obtain ⟨A58_1, c58_1, ev_⟩ := Kd.S_slice ho58_1
             subst ev_
             have HR58_1 := Aside0.mk (Kd.S_reads' ho58_1).2.2
             have HC58_1 := Aside0.mk (Kd.S_reads' ho58_1).2.1
             clear ho58_1)
          | ((with_reducible refine gate_dst (N := 13) rfl ?_)
             refine box_event ?hg (N := 13) ?hd (cs := #[.int .i64 0, .slice none 0 0, .slice none 0 0]) (t := 27) ?hr ?_; (case hd => rfl); (case hg => rfl); (case hr => first | (go_simp; done) | (go_simp; rfl))
             intro gb13_62 hg w61 hbox hbA
             have HBA := Aside0.mk hbA
             have HGgb13_62 := Aside0.mk (show w59.heap.size ≤ gb13_62 by rw [hg]; exact Nat.le_refl _)
             have HXgb13_62 := Aside0.mk hbox
             clear hbA hg hbox
             have hx13_0 : w61.cell? ⟨gb13_62, 0, none⟩ = some (.int .i64 0) := (blk_cell HXgb13_62.out 0).trans rfl
             have hx13_1 : w61.cell? ⟨gb13_62, 1, none⟩ = some (.slice none 0 0) := (blk_cell HXgb13_62.out 1).trans rfl
             have hx13_2 : w61.cell? ⟨gb13_62, 2, none⟩ = some (.slice none 0 0) := (blk_cell HXgb13_62.out 2).trans rfl
             have hf13_0 := blk_frozen HXgb13_62.out 0
             have hf13_1 := blk_frozen HXgb13_62.out 1
             have hf13_2 := blk_frozen HXgb13_62.out 2)
          | ((with_reducible refine gate_store (t := 27) (p := 13) rfl ?_)
             refine store_event (t := 27) (p := 13) (v := ?vo_w63) (w1 := (((w61.setCell ⟨gb13_62, 0, none⟩ (.int .i64 g0)).setCell ⟨gb13_62, 1, none⟩ (.slice A58_0 g1.length c58_0)).setCell ⟨gb13_62, 2, none⟩ (.slice A58_1 g2.length c58_1))) ?hg ?ho ?hn ?hr ?_; (case ho => rfl); (case hg => rfl); (case hn => rfl); (case hr => first | (go_simp; done) | (go_simp; rfl)); intro w63 hw
             replace HBA := Aside0.mk (show Below w59.heap.size w59 w63 by rw [hw]; exact below_set (below_set (below_set (HBA.out) HGgb13_62.out) HGgb13_62.out) HGgb13_62.out)
             replace HXgb13_62 := Aside0.mk (show w63.heap[gb13_62]? = some (.cells #[.int .i64 g0, .slice A58_0 g1.length c58_0, .slice A58_1 g2.length c58_1] 27 (0, 0)) by rw [hw]; exact blk_put (cs := #[.int .i64 g0, .slice A58_0 g1.length c58_0, .slice none 0 0]) (blk_put (cs := #[.int .i64 g0, .slice none 0 0, .slice none 0 0]) (blk_put (cs := #[.int .i64 0, .slice none 0 0, .slice none 0 0]) (HXgb13_62.out) 0 (.int .i64 g0) rfl) 1 (.slice A58_0 g1.length c58_0) rfl) 2 (.slice A58_1 g2.length c58_1) rfl)
             clear hw hx13_0 hx13_1 hx13_2 hf13_0 hf13_1 hf13_2
             have hb := HBA.out
             replace HB0 := Aside0.mk (below_step HB0.out hb)
             replace HB9 := Aside0.mk (below_step HB9.out hb)
             replace HB43 := Aside0.mk (below_step HB43.out hb)
             replace HB50 := Aside0.mk (below_step HB50.out hb)
             replace HB57 := Aside0.mk (below_step HB57.out hb)
             replace HB60 := Aside0.mk (below_step HB60.out hb)
             have HB64 := Aside0.mk (Below.refl w63.heap.size w63)
             replace HR58_0 := Aside0.mk (Kd.C_below HR58_0.out hb)
             replace HR58_1 := Aside0.mk (Kd.C_below HR58_1.out hb)
             clear HB60
             have BK13_62 := HXgb13_62
             clear HXgb13_62 HGgb13_62
             clear HBA hb)
          | ((with_reducible refine gate_callee (f := 17) rfl ?_)
             refine goesL_ (some 113) rfl rfl Try.func17 (by kernel_rfl) rfl #[.slice Al0 l0.length cl0] rfl (by (try simp only [List.map_toArray, List.map_cons, List.map_nil]); first | done | rfl | (simp only [List.length_drop, List.length_take]; rfl)) ?_
             have hh := p13
             obtain ⟨k65, e65⟩ := hh
             (with_reducible refine (spec_DrawEqualType.calls k65 _ _ l0 a0 a1 a2 b0 b1 b2 _ (Kd.C_below HRl0.out HB0.out) HCl0.out e65).mono ?_)
             rintro e w66 ⟨v65_0, v65_1, v65_2, v65_3, rfl, ho65_0, ho65_1, ho65_2, ho65_3, hb⟩
             refine ⟨_, rfl, ?_⟩
             clear e65
             replace HB0 := Aside0.mk (below_step HB0.out hb)
             replace HB9 := Aside0.mk (below_step HB9.out hb)
             replace HB43 := Aside0.mk (below_step HB43.out hb)
             replace HB50 := Aside0.mk (below_step HB50.out hb)
             replace HB57 := Aside0.mk (below_step HB57.out hb)
             replace HB64 := Aside0.mk (below_step HB64.out hb)
             clear hb
             have HB67 := Aside0.mk (Below.refl w66.heap.size w66)
             obtain ⟨A65_0, c65_0, ev_⟩ := Kd.R_slice ho65_0
             subst ev_
             have HR65_0 := Aside0.mk (Kd.R_reads' ho65_0).2.2
             have HC65_0 := Aside0.mk (Kd.R_reads' ho65_0).2.1
             clear ho65_0
             obtain ⟨A65_1, c65_1, ev_⟩ := Kd.N_slice ho65_1
             subst ev_
             have HR65_1 := Aside0.mk (Kd.N_reads' ho65_1).2.2
             have HC65_1 := Aside0.mk (Kd.N_reads' ho65_1).2.1
             clear ho65_1
             obtain ⟨A65_2, c65_2, ev_⟩ := Kd.R_slice ho65_2
             subst ev_
             have HR65_2 := Aside0.mk (Kd.R_reads' ho65_2).2.2
             have HC65_2 := Aside0.mk (Kd.R_reads' ho65_2).2.1
             clear ho65_2
             obtain ⟨A65_3, c65_3, ev_⟩ := Kd.N_slice ho65_3
             subst ev_
             have HR65_3 := Aside0.mk (Kd.N_reads' ho65_3).2.2
             have HC65_3 := Aside0.mk (Kd.N_reads' ho65_3).2.1
             clear ho65_3)
          | ((with_reducible refine gate_dst (N := 15) rfl ?_)
             refine box_event ?hg (N := 15) ?hd (cs := #[.int .i64 0, .slice none 0 0, .slice none 0 0]) (t := 27) ?hr ?_; (case hd => rfl); (case hg => rfl); (case hr => first | (go_simp; done) | (go_simp; rfl))
             intro gb15_69 hg w68 hbox hbA
             have HBA := Aside0.mk hbA
             have HGgb15_69 := Aside0.mk (show w66.heap.size ≤ gb15_69 by rw [hg]; exact Nat.le_refl _)
             have HXgb15_69 := Aside0.mk hbox
             have HBAo := HBA
             clear hbA hg hbox)
          | ((with_reducible refine gate_dst (N := 16) rfl ?_)
             refine box_event ?hg (N := 16) ?hd (cs := #[.int .i64 0, .slice none 0 0, .slice none 0 0]) (t := 27) ?hr ?_; (case hd => rfl); (case hg => rfl); (case hr => first | (go_simp; done) | (go_simp; rfl))
             intro gb16_71 hg w70 hbox hbA
             have HNEgb15_69_gb16_71 := Aside0.mk (show gb15_69 ≠ gb16_71 by have := blk_lt HXgb15_69.out; rw [hg]; exact Nat.ne_of_lt this)
             replace HBA := Aside0.mk (below_step HBA.out hbA)
             have HGgb16_71 := Aside0.mk (show w66.heap.size ≤ gb16_71 by rw [hg]; exact below_size HBAo.out)
             replace HXgb15_69 := Aside0.mk (blk_below HXgb15_69.out hbA)
             have HXgb16_71 := Aside0.mk hbox
             clear hbA hg hbox
             have hx15_0 : w70.cell? ⟨gb15_69, 0, none⟩ = some (.int .i64 0) := (blk_cell HXgb15_69.out 0).trans rfl
             have hx15_1 : w70.cell? ⟨gb15_69, 1, none⟩ = some (.slice none 0 0) := (blk_cell HXgb15_69.out 1).trans rfl
             have hx15_2 : w70.cell? ⟨gb15_69, 2, none⟩ = some (.slice none 0 0) := (blk_cell HXgb15_69.out 2).trans rfl
             have hf15_0 := blk_frozen HXgb15_69.out 0
             have hf15_1 := blk_frozen HXgb15_69.out 1
             have hf15_2 := blk_frozen HXgb15_69.out 2
             have hx16_0 : w70.cell? ⟨gb16_71, 0, none⟩ = some (.int .i64 0) := (blk_cell HXgb16_71.out 0).trans rfl
             have hx16_1 : w70.cell? ⟨gb16_71, 1, none⟩ = some (.slice none 0 0) := (blk_cell HXgb16_71.out 1).trans rfl
             have hx16_2 : w70.cell? ⟨gb16_71, 2, none⟩ = some (.slice none 0 0) := (blk_cell HXgb16_71.out 2).trans rfl
             have hf16_0 := blk_frozen HXgb16_71.out 0
             have hf16_1 := blk_frozen HXgb16_71.out 1
             have hf16_2 := blk_frozen HXgb16_71.out 2)
          | ((with_reducible refine gate_store (t := 27) (p := 15) rfl ?_)
             refine store_event (t := 27) (p := 15) (v := ?vo_w72) (w1 := (((w70.setCell ⟨gb15_69, 0, none⟩ (.int .i64 a0)).setCell ⟨gb15_69, 1, none⟩ (.slice A65_0 a1.length c65_0)).setCell ⟨gb15_69, 2, none⟩ (.slice A65_1 a2.length c65_1))) ?hg ?ho ?hn ?hr ?_; (case ho => rfl); (case hg => rfl); (case hn => rfl); (case hr => first | (go_simp; done) | (go_simp; rfl)); intro w72 hw
             replace HBA := Aside0.mk (show Below w66.heap.size w66 w72 by rw [hw]; exact below_set (below_set (below_set (HBA.out) HGgb15_69.out) HGgb15_69.out) HGgb15_69.out)
             replace HXgb16_71 := Aside0.mk (show w72.heap[gb16_71]? = some (.cells #[.int .i64 0, .slice none 0 0, .slice none 0 0] 27 (0, 0)) by rw [hw]; exact blk_far (blk_far (blk_far (HXgb16_71.out) (Ne.symm HNEgb15_69_gb16_71.out) _) (Ne.symm HNEgb15_69_gb16_71.out) _) (Ne.symm HNEgb15_69_gb16_71.out) _)
             replace HXgb15_69 := Aside0.mk (show w72.heap[gb15_69]? = some (.cells #[.int .i64 a0, .slice A65_0 a1.length c65_0, .slice A65_1 a2.length c65_1] 27 (0, 0)) by rw [hw]; exact blk_put (cs := #[.int .i64 a0, .slice A65_0 a1.length c65_0, .slice none 0 0]) (blk_put (cs := #[.int .i64 a0, .slice none 0 0, .slice none 0 0]) (blk_put (cs := #[.int .i64 0, .slice none 0 0, .slice none 0 0]) (HXgb15_69.out) 0 (.int .i64 a0) rfl) 1 (.slice A65_0 a1.length c65_0) rfl) 2 (.slice A65_1 a2.length c65_1) rfl)
             clear hw hx15_0 hx15_1 hx15_2 hx16_0 hx16_1 hx16_2 hf15_0 hf15_1 hf15_2 hf16_0 hf16_1 hf16_2
             have hx16_0 : w72.cell? ⟨gb16_71, 0, none⟩ = some (.int .i64 0) := (blk_cell HXgb16_71.out 0).trans rfl
             have hx16_1 : w72.cell? ⟨gb16_71, 1, none⟩ = some (.slice none 0 0) := (blk_cell HXgb16_71.out 1).trans rfl
             have hx16_2 : w72.cell? ⟨gb16_71, 2, none⟩ = some (.slice none 0 0) := (blk_cell HXgb16_71.out 2).trans rfl
             have hf16_0 := blk_frozen HXgb16_71.out 0
             have hf16_1 := blk_frozen HXgb16_71.out 1
             have hf16_2 := blk_frozen HXgb16_71.out 2)
          | ((with_reducible refine gate_store (t := 27) (p := 16) rfl ?_)
             refine store_event (t := 27) (p := 16) (v := ?vo_w73) (w1 := (((w72.setCell ⟨gb16_71, 0, none⟩ (.int .i64 b0)).setCell ⟨gb16_71, 1, none⟩ (.slice A65_2 b1.length c65_2)).setCell ⟨gb16_71, 2, none⟩ (.slice A65_3 b2.length c65_3))) ?hg ?ho ?hn ?hr ?_; (case ho => rfl); (case hg => rfl); (case hn => rfl); (case hr => first | (go_simp; done) | (go_simp; rfl)); intro w73 hw
             replace HBA := Aside0.mk (show Below w66.heap.size w66 w73 by rw [hw]; exact below_set (below_set (below_set (HBA.out) HGgb16_71.out) HGgb16_71.out) HGgb16_71.out)
             replace HXgb15_69 := Aside0.mk (show w73.heap[gb15_69]? = some (.cells #[.int .i64 a0, .slice A65_0 a1.length c65_0, .slice A65_1 a2.length c65_1] 27 (0, 0)) by rw [hw]; exact blk_far (blk_far (blk_far (HXgb15_69.out) HNEgb15_69_gb16_71.out _) HNEgb15_69_gb16_71.out _) HNEgb15_69_gb16_71.out _)
             replace HXgb16_71 := Aside0.mk (show w73.heap[gb16_71]? = some (.cells #[.int .i64 b0, .slice A65_2 b1.length c65_2, .slice A65_3 b2.length c65_3] 27 (0, 0)) by rw [hw]; exact blk_put (cs := #[.int .i64 b0, .slice A65_2 b1.length c65_2, .slice none 0 0]) (blk_put (cs := #[.int .i64 b0, .slice none 0 0, .slice none 0 0]) (blk_put (cs := #[.int .i64 0, .slice none 0 0, .slice none 0 0]) (HXgb16_71.out) 0 (.int .i64 b0) rfl) 1 (.slice A65_2 b1.length c65_2) rfl) 2 (.slice A65_3 b2.length c65_3) rfl)
             clear hw hx16_0 hx16_1 hx16_2 hf16_0 hf16_1 hf16_2
             have hb := HBA.out
             replace HB0 := Aside0.mk (below_step HB0.out hb)
             replace HB9 := Aside0.mk (below_step HB9.out hb)
             replace HB43 := Aside0.mk (below_step HB43.out hb)
             replace HB50 := Aside0.mk (below_step HB50.out hb)
             replace HB57 := Aside0.mk (below_step HB57.out hb)
             replace HB64 := Aside0.mk (below_step HB64.out hb)
             replace HB67 := Aside0.mk (below_step HB67.out hb)
             have HB74 := Aside0.mk (Below.refl w73.heap.size w73)
             replace HR65_0 := Aside0.mk (Kd.C_below HR65_0.out hb)
             replace HR65_1 := Aside0.mk (Kd.C_below HR65_1.out hb)
             replace HR65_2 := Aside0.mk (Kd.C_below HR65_2.out hb)
             replace HR65_3 := Aside0.mk (Kd.C_below HR65_3.out hb)
             clear HB67
             have BK15_69 := HXgb15_69
             clear HXgb15_69 HGgb15_69
             have BK16_71 := HXgb16_71
             clear HXgb16_71 HGgb16_71
             clear HBA hb HBAo HNEgb15_69_gb16_71))
        cases vR with
        | true =>
          have hcbp := hcb rfl
          have hdap := hda rfl
          replace HB0 := Aside0.mk (below_drew1 HB0.out)
          replace HB9 := Aside0.mk (below_drew1 HB9.out)
          replace HB43 := Aside0.mk (below_drew1 HB43.out)
          replace HB50 := Aside0.mk (below_drew1 HB50.out)
          replace HB57 := Aside0.mk (below_drew1 HB57.out)
          replace HB64 := Aside0.mk (below_drew1 HB64.out)
          replace HB74 := Aside0.mk (below_drew1 HB74.out)
          refine start_ (n := 39) (S := fun w' => w'.cell? ⟨gb8_41, 0, none⟩ = some (.int .i64 r0) ∧ w'.cell? ⟨gb8_41, 1, none⟩ = some (.slice A37_0 r1.length c37_0) ∧ w'.cell? ⟨gb8_41, 2, none⟩ = some (.slice A37_1 r2.length c37_1) ∧ w'.cell? ⟨gb11_55, 0, none⟩ = some (.int .i64 f0) ∧ w'.cell? ⟨gb11_55, 1, none⟩ = some (.slice A51_0 f1.length c51_0) ∧ w'.cell? ⟨gb11_55, 2, none⟩ = some (.slice A51_1 f2.length c51_1) ∧ w'.cell? ⟨gb13_62, 0, none⟩ = some (.int .i64 g0) ∧ w'.cell? ⟨gb13_62, 1, none⟩ = some (.slice A58_0 g1.length c58_0) ∧ w'.cell? ⟨gb13_62, 2, none⟩ = some (.slice A58_1 g2.length c58_1) ∧ w'.cell? ⟨gb15_69, 0, none⟩ = some (.int .i64 a0) ∧ w'.cell? ⟨gb15_69, 1, none⟩ = some (.slice A65_0 a1.length c65_0) ∧ w'.cell? ⟨gb15_69, 2, none⟩ = some (.slice A65_1 a2.length c65_1) ∧ w'.cell? ⟨gb16_71, 0, none⟩ = some (.int .i64 b0) ∧ w'.cell? ⟨gb16_71, 1, none⟩ = some (.slice A65_2 b1.length c65_2) ∧ w'.cell? ⟨gb16_71, 2, none⟩ = some (.slice A65_3 b2.length c65_3)) (ds := []) #[false, false, false, false, false, false, false, false, false, false, false, false, false, false, false, false, false, false, false, false, false, false, false, false, false, false, false, false, false, false, false, false, false, false, false, false, false, false, false] (by kernel_rfl) rfl rfl ⟨(blk_cell (blk_below BK8_41.out HB43.out) 0).trans rfl, (blk_cell (blk_below BK8_41.out HB43.out) 1).trans rfl, (blk_cell (blk_below BK8_41.out HB43.out) 2).trans rfl, (blk_cell (blk_below BK11_55.out HB57.out) 0).trans rfl, (blk_cell (blk_below BK11_55.out HB57.out) 1).trans rfl, (blk_cell (blk_below BK11_55.out HB57.out) 2).trans rfl, (blk_cell (blk_below BK13_62.out HB64.out) 0).trans rfl, (blk_cell (blk_below BK13_62.out HB64.out) 1).trans rfl, (blk_cell (blk_below BK13_62.out HB64.out) 2).trans rfl, (blk_cell (blk_below BK15_69.out HB74.out) 0).trans rfl, (blk_cell (blk_below BK15_69.out HB74.out) 1).trans rfl, (blk_cell (blk_below BK15_69.out HB74.out) 2).trans rfl, (blk_cell (blk_below BK16_71.out HB74.out) 0).trans rfl, (blk_cell (blk_below BK16_71.out HB74.out) 1).trans rfl, (blk_cell (blk_below BK16_71.out HB74.out) 2).trans rfl⟩ (fun hHeld => ?_); refine with_tabW laws_FnTypes.tab23 laws_FnTypes.bits23 (fun HT_ HW_ => ?_)
          generalize w73.drew = w75 at HB0 HB9 HB43 HB50 HB57 HB64 HB74 hHeld ⊢
          refine take_ (i := 0) (N := some 116) (v := ?_) (a' := ?_) #[true, false, false, false, false, false, false, false, false, false, false, false, false, false, false, false, false, false, false, false, false, false, false, false, false, false, false, false, false, false, false, false, false, false, false, false, false, false, false] rfl rfl (take_ofW HT_.out HW_.out (by kernel_rfl)) (fun _ _ _ h => h) (Or.inl ⟨by rfl, ?_⟩) hHeld ?_ ?_
          rotate_left
          · rintro w' ⟨s0, s1, s2, s3, s4, s5, s6, s7, s8, s9, s10, s11, s12, s13, s14⟩
            go_simp
            with_reducible rfl
          rotate_left
          · simp only [Act.put, List.setIfInBounds_toArray, List.set_cons_zero, List.set_cons_succ, i64_w, i32_w]
            rfl
          refine take_ (i := 2) (N := some 118) (v := ?_) (a' := ?_) #[true, false, true, false, false, false, false, false, false, false, false, false, false, false, false, false, false, false, false, false, false, false, false, false, false, false, false, false, false, false, false, false, false, false, false, false, false, false, false] rfl rfl (take_ofW HT_.out HW_.out (by kernel_rfl)) (fun _ _ _ h => h) (Or.inl ⟨by rfl, ?_⟩) hHeld ?_ ?_
          rotate_left
          · rintro w' ⟨s0, s1, s2, s3, s4, s5, s6, s7, s8, s9, s10, s11, s12, s13, s14⟩
            go_simp
            with_reducible rfl
          rotate_left
          · simp only [Act.put, List.setIfInBounds_toArray, List.set_cons_zero, List.set_cons_succ, i64_w, i32_w]
            rfl
          refine one_ (i := 1) (N := some 117) #[true, true, true, false, false, false, false, false, false, false, false, false, false, false, false, false, false, false, false, false, false, false, false, false, false, false, false, false, false, false, false, false, false, false, false, false, false, false, false] rfl rfl (one_of HT_.out (by kernel_rfl)) (by decide) (fun K hK => ?_)
          refine goes_ Try.func18 (by kernel_rfl) rfl #[.agg #[.int .i64 r0, .slice A37_0 r1.length c37_0, .slice A37_1 r2.length c37_1]] (by rfl) rfl rfl (by (try simp only [List.map_toArray, List.map_cons, List.map_nil]); first | done | rfl | (simp only [List.length_drop, List.length_take]; rfl)) ?_
          have hh := hR1
          obtain ⟨k76, e76⟩ := hh
          (with_reducible refine (impl_IsRow.calls k76 r0 _ _ r1 _ _ r2 true _ (Kd.C_below HR37_0.out HB43.out) HC37_0.out (Kd.C_below HR37_1.out HB43.out) HC37_1.out e76).mono ?_)
          rintro e w77 ⟨rfl, hb⟩
          refine ⟨_, rfl, ?_⟩
          clear e76
          replace HB0 := Aside0.mk (below_step HB0.out hb)
          replace HB9 := Aside0.mk (below_step HB9.out hb)
          replace HB43 := Aside0.mk (below_step HB43.out hb)
          replace HB50 := Aside0.mk (below_step HB50.out hb)
          replace HB57 := Aside0.mk (below_step HB57.out hb)
          replace HB64 := Aside0.mk (below_step HB64.out hb)
          replace HB74 := Aside0.mk (below_step HB74.out hb)
          clear hb
          refine hK.out _ _ ⟨(blk_cell (blk_below BK8_41.out HB43.out) 0).trans rfl, (blk_cell (blk_below BK8_41.out HB43.out) 1).trans rfl, (blk_cell (blk_below BK8_41.out HB43.out) 2).trans rfl, (blk_cell (blk_below BK11_55.out HB57.out) 0).trans rfl, (blk_cell (blk_below BK11_55.out HB57.out) 1).trans rfl, (blk_cell (blk_below BK11_55.out HB57.out) 2).trans rfl, (blk_cell (blk_below BK13_62.out HB64.out) 0).trans rfl, (blk_cell (blk_below BK13_62.out HB64.out) 1).trans rfl, (blk_cell (blk_below BK13_62.out HB64.out) 2).trans rfl, (blk_cell (blk_below BK15_69.out HB74.out) 0).trans rfl, (blk_cell (blk_below BK15_69.out HB74.out) 1).trans rfl, (blk_cell (blk_below BK15_69.out HB74.out) 2).trans rfl, (blk_cell (blk_below BK16_71.out HB74.out) 0).trans rfl, (blk_cell (blk_below BK16_71.out HB74.out) 1).trans rfl, (blk_cell (blk_below BK16_71.out HB74.out) 2).trans rfl⟩ (fun hHeld => ?_)
          clear hK K
          refine norm_ (a' := ?_) ?_ ?_
          rotate_left
          · show Act.put _ (some 117) _ = _
            simp only [Act.put, List.setIfInBounds_toArray, List.set_cons_zero, List.set_cons_succ, i64_w, i32_w]
            rfl
          refine one_ (i := 3) (N := some 119) #[true, true, true, true, false, false, false, false, false, false, false, false, false, false, false, false, false, false, false, false, false, false, false, false, false, false, false, false, false, false, false, false, false, false, false, false, false, false, false] rfl rfl (one_of HT_.out (by kernel_rfl)) (by decide) (fun K hK => ?_)
          refine goes_ Try.func19 (by kernel_rfl) rfl #[.agg #[.int .i64 r0, .slice A37_0 r1.length c37_0, .slice A37_1 r2.length c37_1]] (by rfl) rfl rfl (by (try simp only [List.map_toArray, List.map_cons, List.map_nil]); first | done | rfl | (simp only [List.length_drop, List.length_take]; rfl)) ?_
          have hh := hR2
          obtain ⟨k78, e78⟩ := hh
          (with_reducible refine (spec_IsRow.calls k78 r0 _ _ r1 _ _ r2 true _ (Kd.C_below HR37_0.out HB43.out) HC37_0.out (Kd.C_below HR37_1.out HB43.out) HC37_1.out e78).mono ?_)
          rintro e w79 ⟨rfl, hb⟩
          refine ⟨_, rfl, ?_⟩
          clear e78
          replace HB0 := Aside0.mk (below_step HB0.out hb)
          replace HB9 := Aside0.mk (below_step HB9.out hb)
          replace HB43 := Aside0.mk (below_step HB43.out hb)
          replace HB50 := Aside0.mk (below_step HB50.out hb)
          replace HB57 := Aside0.mk (below_step HB57.out hb)
          replace HB64 := Aside0.mk (below_step HB64.out hb)
          replace HB74 := Aside0.mk (below_step HB74.out hb)
          clear hb
          refine hK.out _ _ ⟨(blk_cell (blk_below BK8_41.out HB43.out) 0).trans rfl, (blk_cell (blk_below BK8_41.out HB43.out) 1).trans rfl, (blk_cell (blk_below BK8_41.out HB43.out) 2).trans rfl, (blk_cell (blk_below BK11_55.out HB57.out) 0).trans rfl, (blk_cell (blk_below BK11_55.out HB57.out) 1).trans rfl, (blk_cell (blk_below BK11_55.out HB57.out) 2).trans rfl, (blk_cell (blk_below BK13_62.out HB64.out) 0).trans rfl, (blk_cell (blk_below BK13_62.out HB64.out) 1).trans rfl, (blk_cell (blk_below BK13_62.out HB64.out) 2).trans rfl, (blk_cell (blk_below BK15_69.out HB74.out) 0).trans rfl, (blk_cell (blk_below BK15_69.out HB74.out) 1).trans rfl, (blk_cell (blk_below BK15_69.out HB74.out) 2).trans rfl, (blk_cell (blk_below BK16_71.out HB74.out) 0).trans rfl, (blk_cell (blk_below BK16_71.out HB74.out) 1).trans rfl, (blk_cell (blk_below BK16_71.out HB74.out) 2).trans rfl⟩ (fun hHeld => ?_)
          clear hK K
          refine norm_ (a' := ?_) ?_ ?_
          rotate_left
          · show Act.put _ (some 119) _ = _
            simp only [Act.put, List.setIfInBounds_toArray, List.set_cons_zero, List.set_cons_succ, i64_w, i32_w]
            rfl
          refine pure_ (i := 4) (N := some 120) (v := ?_) (a' := ?_) #[true, true, true, true, true, false, false, false, false, false, false, false, false, false, false, false, false, false, false, false, false, false, false, false, false, false, false, false, false, false, false, false, false, false, false, false, false, false, false] rfl rfl (any_of HT_.out (by kernel_rfl)) (fun _ _ _ h => h) (Or.inl ⟨by rfl, ?_⟩) ?_ ?_
          rotate_left
          · intro w'
            go_simp
            with_reducible rfl
          rotate_left
          · simp only [Act.put, List.setIfInBounds_toArray, List.set_cons_zero, List.set_cons_succ, i64_w, i32_w]
            rfl
          refine pure_ (i := 5) (N := some 121) (v := ?_) (a' := ?_) #[true, true, true, true, true, true, false, false, false, false, false, false, false, false, false, false, false, false, false, false, false, false, false, false, false, false, false, false, false, false, false, false, false, false, false, false, false, false, false] rfl rfl (any_of HT_.out (by kernel_rfl)) (fun _ _ _ h => h) (Or.inl ⟨by rfl, ?_⟩) ?_ ?_
          rotate_left
          · intro w'
            go_simp
            with_reducible rfl
          rotate_left
          · simp only [Act.put, List.setIfInBounds_toArray, List.set_cons_zero, List.set_cons_succ, i64_w, i32_w]
            rfl
          refine pure_ (i := 6) (N := some 122) (v := ?_) (a' := ?_) #[true, true, true, true, true, true, true, false, false, false, false, false, false, false, false, false, false, false, false, false, false, false, false, false, false, false, false, false, false, false, false, false, false, false, false, false, false, false, false] rfl rfl (any_of HT_.out (by kernel_rfl)) (fun _ _ _ h => h) (Or.inl ⟨by rfl, ?_⟩) ?_ ?_
          rotate_left
          · intro w'
            go_simp
            with_reducible rfl
          rotate_left
          · simp only [Act.put, List.setIfInBounds_toArray, List.set_cons_zero, List.set_cons_succ, i64_w, i32_w]
            rfl
          refine pure_ (i := 7) (N := some 123) (v := ?_) (a' := ?_) #[true, true, true, true, true, true, true, true, false, false, false, false, false, false, false, false, false, false, false, false, false, false, false, false, false, false, false, false, false, false, false, false, false, false, false, false, false, false, false] rfl rfl (any_of HT_.out (by kernel_rfl)) (fun _ _ _ h => h) (Or.inl ⟨by rfl, ?_⟩) ?_ ?_
          rotate_left
          · intro w'
            go_simp
            with_reducible rfl
          rotate_left
          · simp only [Act.put, List.setIfInBounds_toArray, List.set_cons_zero, List.set_cons_succ, i64_w, i32_w]
            rfl
          refine pure_ (i := 8) (N := some 124) (v := ?_) (a' := ?_) #[true, true, true, true, true, true, true, true, true, false, false, false, false, false, false, false, false, false, false, false, false, false, false, false, false, false, false, false, false, false, false, false, false, false, false, false, false, false, false] rfl rfl (any_of HT_.out (by kernel_rfl)) (fun _ _ _ h => h) (Or.inl ⟨by rfl, ?_⟩) ?_ ?_
          rotate_left
          · intro w'
            go_simp
            with_reducible rfl
          rotate_left
          · simp only [Act.put, List.setIfInBounds_toArray, List.set_cons_zero, List.set_cons_succ, i64_w, i32_w]
            rfl
          refine pure_ (i := 9) (N := some 125) (v := ?_) (a' := ?_) #[true, true, true, true, true, true, true, true, true, true, false, false, false, false, false, false, false, false, false, false, false, false, false, false, false, false, false, false, false, false, false, false, false, false, false, false, false, false, false] rfl rfl (any_of HT_.out (by kernel_rfl)) (fun _ _ _ h => h) (Or.inl ⟨by rfl, ?_⟩) ?_ ?_
          rotate_left
          · intro w'
            go_simp
            with_reducible rfl
          rotate_left
          · simp only [Act.put, List.setIfInBounds_toArray, List.set_cons_zero, List.set_cons_succ, i64_w, i32_w]
            rfl
          refine pure_ (i := 10) (N := some 126) (v := ?_) (a' := ?_) #[true, true, true, true, true, true, true, true, true, true, true, false, false, false, false, false, false, false, false, false, false, false, false, false, false, false, false, false, false, false, false, false, false, false, false, false, false, false, false] rfl rfl (any_of HT_.out (by kernel_rfl)) (fun _ _ _ h => h) (Or.inl ⟨by rfl, ?_⟩) ?_ ?_
          rotate_left
          · intro w'
            go_simp
            with_reducible rfl
          rotate_left
          · simp only [Act.put, List.setIfInBounds_toArray, List.set_cons_zero, List.set_cons_succ, i64_w, i32_w]
            rfl
          refine take_ (i := 11) (N := some 127) (v := ?_) (a' := ?_) #[true, true, true, true, true, true, true, true, true, true, true, true, false, false, false, false, false, false, false, false, false, false, false, false, false, false, false, false, false, false, false, false, false, false, false, false, false, false, false] rfl rfl (take_ofW HT_.out HW_.out (by kernel_rfl)) (fun _ _ _ h => h) (Or.inl ⟨by rfl, ?_⟩) hHeld ?_ ?_
          rotate_left
          · rintro w' ⟨s0, s1, s2, s3, s4, s5, s6, s7, s8, s9, s10, s11, s12, s13, s14⟩
            go_simp
            with_reducible rfl
          rotate_left
          · simp only [Act.put, List.setIfInBounds_toArray, List.set_cons_zero, List.set_cons_succ, i64_w, i32_w]
            rfl
          refine take_ (i := 12) (N := some 128) (v := ?_) (a' := ?_) #[true, true, true, true, true, true, true, true, true, true, true, true, true, false, false, false, false, false, false, false, false, false, false, false, false, false, false, false, false, false, false, false, false, false, false, false, false, false, false] rfl rfl (take_ofW HT_.out HW_.out (by kernel_rfl)) (fun _ _ _ h => h) (Or.inl ⟨by rfl, ?_⟩) hHeld ?_ ?_
          rotate_left
          · rintro w' ⟨s0, s1, s2, s3, s4, s5, s6, s7, s8, s9, s10, s11, s12, s13, s14⟩
            go_simp
            with_reducible rfl
          rotate_left
          · simp only [Act.put, List.setIfInBounds_toArray, List.set_cons_zero, List.set_cons_succ, i64_w, i32_w]
            rfl
          refine one_ (i := 13) (N := some 129) #[true, true, true, true, true, true, true, true, true, true, true, true, true, true, false, false, false, false, false, false, false, false, false, false, false, false, false, false, false, false, false, false, false, false, false, false, false, false, false] rfl rfl (one_of HT_.out (by kernel_rfl)) (by decide) (fun K hK => ?_)
          refine goes_ Try.func20 (by kernel_rfl) rfl #[.agg #[.int .i64 f0, .slice A51_0 f1.length c51_0, .slice A51_1 f2.length c51_1], .agg #[.int .i64 g0, .slice A58_0 g1.length c58_0, .slice A58_1 g2.length c58_1]] (by rfl) rfl rfl (by (try simp only [List.map_toArray, List.map_cons, List.map_nil]); first | done | rfl | (simp only [List.length_drop, List.length_take]; rfl)) ?_
          have hh := p14
          obtain ⟨k80, e80⟩ := hh
          (with_reducible refine (impl_EqualType.calls k80 f0 _ _ f1 _ _ f2 g0 _ _ g1 _ _ g2 true _ (Kd.C_below HR51_0.out HB57.out) HC51_0.out (Kd.C_below HR51_1.out HB57.out) HC51_1.out (Kd.C_below HR58_0.out HB64.out) HC58_0.out (Kd.C_below HR58_1.out HB64.out) HC58_1.out e80).mono ?_)
          rintro e w81 ⟨rfl, hb⟩
          refine ⟨_, rfl, ?_⟩
          clear e80
          replace HB0 := Aside0.mk (below_step HB0.out hb)
          replace HB9 := Aside0.mk (below_step HB9.out hb)
          replace HB43 := Aside0.mk (below_step HB43.out hb)
          replace HB50 := Aside0.mk (below_step HB50.out hb)
          replace HB57 := Aside0.mk (below_step HB57.out hb)
          replace HB64 := Aside0.mk (below_step HB64.out hb)
          replace HB74 := Aside0.mk (below_step HB74.out hb)
          clear hb
          refine hK.out _ _ ⟨(blk_cell (blk_below BK8_41.out HB43.out) 0).trans rfl, (blk_cell (blk_below BK8_41.out HB43.out) 1).trans rfl, (blk_cell (blk_below BK8_41.out HB43.out) 2).trans rfl, (blk_cell (blk_below BK11_55.out HB57.out) 0).trans rfl, (blk_cell (blk_below BK11_55.out HB57.out) 1).trans rfl, (blk_cell (blk_below BK11_55.out HB57.out) 2).trans rfl, (blk_cell (blk_below BK13_62.out HB64.out) 0).trans rfl, (blk_cell (blk_below BK13_62.out HB64.out) 1).trans rfl, (blk_cell (blk_below BK13_62.out HB64.out) 2).trans rfl, (blk_cell (blk_below BK15_69.out HB74.out) 0).trans rfl, (blk_cell (blk_below BK15_69.out HB74.out) 1).trans rfl, (blk_cell (blk_below BK15_69.out HB74.out) 2).trans rfl, (blk_cell (blk_below BK16_71.out HB74.out) 0).trans rfl, (blk_cell (blk_below BK16_71.out HB74.out) 1).trans rfl, (blk_cell (blk_below BK16_71.out HB74.out) 2).trans rfl⟩ (fun hHeld => ?_)
          clear hK K
          refine norm_ (a' := ?_) ?_ ?_
          rotate_left
          · show Act.put _ (some 129) _ = _
            simp only [Act.put, List.setIfInBounds_toArray, List.set_cons_zero, List.set_cons_succ, i64_w, i32_w]
            rfl
          refine pure_ (i := 14) (N := some 130) (v := ?_) (a' := ?_) #[true, true, true, true, true, true, true, true, true, true, true, true, true, true, true, false, false, false, false, false, false, false, false, false, false, false, false, false, false, false, false, false, false, false, false, false, false, false, false] rfl rfl (any_of HT_.out (by kernel_rfl)) (fun _ _ _ h => h) (Or.inl ⟨by rfl, ?_⟩) ?_ ?_
          rotate_left
          · intro w'
            go_simp
            with_reducible rfl
          rotate_left
          · simp only [Act.put, List.setIfInBounds_toArray, List.set_cons_zero, List.set_cons_succ, i64_w, i32_w]
            rfl
          refine pure_ (i := 15) (N := some 131) (v := ?_) (a' := ?_) #[true, true, true, true, true, true, true, true, true, true, true, true, true, true, true, true, false, false, false, false, false, false, false, false, false, false, false, false, false, false, false, false, false, false, false, false, false, false, false] rfl rfl (any_of HT_.out (by kernel_rfl)) (fun _ _ _ h => h) (Or.inl ⟨by rfl, ?_⟩) ?_ ?_
          rotate_left
          · intro w'
            go_simp
            with_reducible rfl
          rotate_left
          · simp only [Act.put, List.setIfInBounds_toArray, List.set_cons_zero, List.set_cons_succ, i64_w, i32_w]
            rfl
          refine take_ (i := 16) (N := some 132) (v := ?_) (a' := ?_) #[true, true, true, true, true, true, true, true, true, true, true, true, true, true, true, true, true, false, false, false, false, false, false, false, false, false, false, false, false, false, false, false, false, false, false, false, false, false, false] rfl rfl (take_ofW HT_.out HW_.out (by kernel_rfl)) (fun _ _ _ h => h) (Or.inl ⟨by rfl, ?_⟩) hHeld ?_ ?_
          rotate_left
          · rintro w' ⟨s0, s1, s2, s3, s4, s5, s6, s7, s8, s9, s10, s11, s12, s13, s14⟩
            go_simp
            with_reducible rfl
          rotate_left
          · simp only [Act.put, List.setIfInBounds_toArray, List.set_cons_zero, List.set_cons_succ, i64_w, i32_w]
            rfl
          refine take_ (i := 17) (N := some 133) (v := ?_) (a' := ?_) #[true, true, true, true, true, true, true, true, true, true, true, true, true, true, true, true, true, true, false, false, false, false, false, false, false, false, false, false, false, false, false, false, false, false, false, false, false, false, false] rfl rfl (take_ofW HT_.out HW_.out (by kernel_rfl)) (fun _ _ _ h => h) (Or.inl ⟨by rfl, ?_⟩) hHeld ?_ ?_
          rotate_left
          · rintro w' ⟨s0, s1, s2, s3, s4, s5, s6, s7, s8, s9, s10, s11, s12, s13, s14⟩
            go_simp
            with_reducible rfl
          rotate_left
          · simp only [Act.put, List.setIfInBounds_toArray, List.set_cons_zero, List.set_cons_succ, i64_w, i32_w]
            rfl
          refine take_ (i := 19) (N := some 135) (v := ?_) (a' := ?_) #[true, true, true, true, true, true, true, true, true, true, true, true, true, true, true, true, true, true, false, true, false, false, false, false, false, false, false, false, false, false, false, false, false, false, false, false, false, false, false] rfl rfl (take_ofW HT_.out HW_.out (by kernel_rfl)) (fun _ _ _ h => h) (Or.inl ⟨by rfl, ?_⟩) hHeld ?_ ?_
          rotate_left
          · rintro w' ⟨s0, s1, s2, s3, s4, s5, s6, s7, s8, s9, s10, s11, s12, s13, s14⟩
            go_simp
            with_reducible rfl
          rotate_left
          · simp only [Act.put, List.setIfInBounds_toArray, List.set_cons_zero, List.set_cons_succ, i64_w, i32_w]
            rfl
          refine take_ (i := 20) (N := some 136) (v := ?_) (a' := ?_) #[true, true, true, true, true, true, true, true, true, true, true, true, true, true, true, true, true, true, false, true, true, false, false, false, false, false, false, false, false, false, false, false, false, false, false, false, false, false, false] rfl rfl (take_ofW HT_.out HW_.out (by kernel_rfl)) (fun _ _ _ h => h) (Or.inl ⟨by rfl, ?_⟩) hHeld ?_ ?_
          rotate_left
          · rintro w' ⟨s0, s1, s2, s3, s4, s5, s6, s7, s8, s9, s10, s11, s12, s13, s14⟩
            go_simp
            with_reducible rfl
          rotate_left
          · simp only [Act.put, List.setIfInBounds_toArray, List.set_cons_zero, List.set_cons_succ, i64_w, i32_w]
            rfl
          refine one_ (i := 18) (N := some 134) #[true, true, true, true, true, true, true, true, true, true, true, true, true, true, true, true, true, true, true, true, true, false, false, false, false, false, false, false, false, false, false, false, false, false, false, false, false, false, false] rfl rfl (one_of HT_.out (by kernel_rfl)) (by decide) (fun K hK => ?_)
          refine goes_ Try.func20 (by kernel_rfl) rfl #[.agg #[.int .i64 a0, .slice A65_0 a1.length c65_0, .slice A65_1 a2.length c65_1], .agg #[.int .i64 b0, .slice A65_2 b1.length c65_2, .slice A65_3 b2.length c65_3]] (by rfl) rfl rfl (by (try simp only [List.map_toArray, List.map_cons, List.map_nil]); first | done | rfl | (simp only [List.length_drop, List.length_take]; rfl)) ?_
          have hh := p15
          obtain ⟨k82, e82⟩ := hh
          (with_reducible refine (impl_EqualType.calls k82 a0 _ _ a1 _ _ a2 b0 _ _ b1 _ _ b2 vE _ (Kd.C_below HR65_0.out HB74.out) HC65_0.out (Kd.C_below HR65_1.out HB74.out) HC65_1.out (Kd.C_below HR65_2.out HB74.out) HC65_2.out (Kd.C_below HR65_3.out HB74.out) HC65_3.out e82).mono ?_)
          rintro e w83 ⟨rfl, hb⟩
          refine ⟨_, rfl, ?_⟩
          clear e82
          replace HB0 := Aside0.mk (below_step HB0.out hb)
          replace HB9 := Aside0.mk (below_step HB9.out hb)
          replace HB43 := Aside0.mk (below_step HB43.out hb)
          replace HB50 := Aside0.mk (below_step HB50.out hb)
          replace HB57 := Aside0.mk (below_step HB57.out hb)
          replace HB64 := Aside0.mk (below_step HB64.out hb)
          replace HB74 := Aside0.mk (below_step HB74.out hb)
          clear hb
          refine hK.out _ _ ⟨(blk_cell (blk_below BK8_41.out HB43.out) 0).trans rfl, (blk_cell (blk_below BK8_41.out HB43.out) 1).trans rfl, (blk_cell (blk_below BK8_41.out HB43.out) 2).trans rfl, (blk_cell (blk_below BK11_55.out HB57.out) 0).trans rfl, (blk_cell (blk_below BK11_55.out HB57.out) 1).trans rfl, (blk_cell (blk_below BK11_55.out HB57.out) 2).trans rfl, (blk_cell (blk_below BK13_62.out HB64.out) 0).trans rfl, (blk_cell (blk_below BK13_62.out HB64.out) 1).trans rfl, (blk_cell (blk_below BK13_62.out HB64.out) 2).trans rfl, (blk_cell (blk_below BK15_69.out HB74.out) 0).trans rfl, (blk_cell (blk_below BK15_69.out HB74.out) 1).trans rfl, (blk_cell (blk_below BK15_69.out HB74.out) 2).trans rfl, (blk_cell (blk_below BK16_71.out HB74.out) 0).trans rfl, (blk_cell (blk_below BK16_71.out HB74.out) 1).trans rfl, (blk_cell (blk_below BK16_71.out HB74.out) 2).trans rfl⟩ (fun hHeld => ?_)
          clear hK K
          refine norm_ (a' := ?_) ?_ ?_
          rotate_left
          · show Act.put _ (some 134) _ = _
            simp only [Act.put, List.setIfInBounds_toArray, List.set_cons_zero, List.set_cons_succ, i64_w, i32_w]
            rfl
          refine one_ (i := 21) (N := some 137) #[true, true, true, true, true, true, true, true, true, true, true, true, true, true, true, true, true, true, true, true, true, true, false, false, false, false, false, false, false, false, false, false, false, false, false, false, false, false, false] rfl rfl (one_of HT_.out (by kernel_rfl)) (by decide) (fun K hK => ?_)
          refine goes_ Try.func21 (by kernel_rfl) rfl #[.agg #[.int .i64 a0, .slice A65_0 a1.length c65_0, .slice A65_1 a2.length c65_1], .agg #[.int .i64 b0, .slice A65_2 b1.length c65_2, .slice A65_3 b2.length c65_3]] (by rfl) rfl rfl (by (try simp only [List.map_toArray, List.map_cons, List.map_nil]); first | done | rfl | (simp only [List.length_drop, List.length_take]; rfl)) ?_
          have hh := p16
          obtain ⟨k84, e84⟩ := hh
          (with_reducible refine (spec_EqualType.calls k84 a0 _ _ a1 _ _ a2 b0 _ _ b1 _ _ b2 vE _ (Kd.C_below HR65_0.out HB74.out) HC65_0.out (Kd.C_below HR65_1.out HB74.out) HC65_1.out (Kd.C_below HR65_2.out HB74.out) HC65_2.out (Kd.C_below HR65_3.out HB74.out) HC65_3.out e84).mono ?_)
          rintro e w85 ⟨rfl, hb⟩
          refine ⟨_, rfl, ?_⟩
          clear e84
          replace HB0 := Aside0.mk (below_step HB0.out hb)
          replace HB9 := Aside0.mk (below_step HB9.out hb)
          replace HB43 := Aside0.mk (below_step HB43.out hb)
          replace HB50 := Aside0.mk (below_step HB50.out hb)
          replace HB57 := Aside0.mk (below_step HB57.out hb)
          replace HB64 := Aside0.mk (below_step HB64.out hb)
          replace HB74 := Aside0.mk (below_step HB74.out hb)
          clear hb
          refine hK.out _ _ ⟨(blk_cell (blk_below BK8_41.out HB43.out) 0).trans rfl, (blk_cell (blk_below BK8_41.out HB43.out) 1).trans rfl, (blk_cell (blk_below BK8_41.out HB43.out) 2).trans rfl, (blk_cell (blk_below BK11_55.out HB57.out) 0).trans rfl, (blk_cell (blk_below BK11_55.out HB57.out) 1).trans rfl, (blk_cell (blk_below BK11_55.out HB57.out) 2).trans rfl, (blk_cell (blk_below BK13_62.out HB64.out) 0).trans rfl, (blk_cell (blk_below BK13_62.out HB64.out) 1).trans rfl, (blk_cell (blk_below BK13_62.out HB64.out) 2).trans rfl, (blk_cell (blk_below BK15_69.out HB74.out) 0).trans rfl, (blk_cell (blk_below BK15_69.out HB74.out) 1).trans rfl, (blk_cell (blk_below BK15_69.out HB74.out) 2).trans rfl, (blk_cell (blk_below BK16_71.out HB74.out) 0).trans rfl, (blk_cell (blk_below BK16_71.out HB74.out) 1).trans rfl, (blk_cell (blk_below BK16_71.out HB74.out) 2).trans rfl⟩ (fun hHeld => ?_)
          clear hK K
          refine norm_ (a' := ?_) ?_ ?_
          rotate_left
          · show Act.put _ (some 137) _ = _
            simp only [Act.put, List.setIfInBounds_toArray, List.set_cons_zero, List.set_cons_succ, i64_w, i32_w]
            rfl
          refine pure_ (i := 22) (N := some 138) (v := ?_) (a' := ?_) #[true, true, true, true, true, true, true, true, true, true, true, true, true, true, true, true, true, true, true, true, true, true, true, false, false, false, false, false, false, false, false, false, false, false, false, false, false, false, false] rfl rfl (any_of HT_.out (by kernel_rfl)) (fun _ _ _ h => h) (Or.inl ⟨by rfl, ?_⟩) ?_ ?_
          rotate_left
          · intro w'
            go_simp
            with_reducible rfl
          rotate_left
          · simp only [Act.put, List.setIfInBounds_toArray, List.set_cons_zero, List.set_cons_succ, i64_w, i32_w]
            rfl
          refine pure_ (i := 23) (N := some 139) (v := ?_) (a' := ?_) #[true, true, true, true, true, true, true, true, true, true, true, true, true, true, true, true, true, true, true, true, true, true, true, true, false, false, false, false, false, false, false, false, false, false, false, false, false, false, false] rfl rfl (any_of HT_.out (by kernel_rfl)) (fun _ _ _ h => h) (Or.inl ⟨by rfl, ?_⟩) ?_ ?_
          rotate_left
          · intro w'
            go_simp
            with_reducible rfl
          rotate_left
          · simp only [Act.put, List.setIfInBounds_toArray, List.set_cons_zero, List.set_cons_succ, i64_w, i32_w]
            rfl
          refine pure_ (i := 24) (N := some 140) (v := ?_) (a' := ?_) #[true, true, true, true, true, true, true, true, true, true, true, true, true, true, true, true, true, true, true, true, true, true, true, true, true, false, false, false, false, false, false, false, false, false, false, false, false, false, false] rfl rfl (any_of HT_.out (by kernel_rfl)) (fun _ _ _ h => h) (Or.inl ⟨by rfl, ?_⟩) ?_ ?_
          rotate_left
          · intro w'
            go_simp
            with_reducible rfl
          rotate_left
          · simp only [Act.put, List.setIfInBounds_toArray, List.set_cons_zero, List.set_cons_succ, i64_w, i32_w]
            rfl
          refine take_ (i := 25) (N := some 141) (v := ?_) (a' := ?_) #[true, true, true, true, true, true, true, true, true, true, true, true, true, true, true, true, true, true, true, true, true, true, true, true, true, true, false, false, false, false, false, false, false, false, false, false, false, false, false] rfl rfl (take_ofW HT_.out HW_.out (by kernel_rfl)) (fun _ _ _ h => h) (Or.inl ⟨by rfl, ?_⟩) hHeld ?_ ?_
          rotate_left
          · rintro w' ⟨s0, s1, s2, s3, s4, s5, s6, s7, s8, s9, s10, s11, s12, s13, s14⟩
            go_simp
            with_reducible rfl
          rotate_left
          · simp only [Act.put, List.setIfInBounds_toArray, List.set_cons_zero, List.set_cons_succ, i64_w, i32_w]
            rfl
          refine one_ (i := 26) (N := some 142) #[true, true, true, true, true, true, true, true, true, true, true, true, true, true, true, true, true, true, true, true, true, true, true, true, true, true, true, false, false, false, false, false, false, false, false, false, false, false, false] rfl rfl (one_of HT_.out (by kernel_rfl)) (by decide) (fun K hK => ?_)
          refine goes_ Try.func18 (by kernel_rfl) rfl #[.agg #[.int .i64 r0, .slice A37_0 r1.length c37_0, .slice A37_1 r2.length c37_1]] (by rfl) rfl rfl (by (try simp only [List.map_toArray, List.map_cons, List.map_nil]); first | done | rfl | (simp only [List.length_drop, List.length_take]; rfl)) ?_
          have hh := hR1
          obtain ⟨k86, e86⟩ := hh
          (with_reducible refine (impl_IsRow.calls k86 r0 _ _ r1 _ _ r2 true _ (Kd.C_below HR37_0.out HB43.out) HC37_0.out (Kd.C_below HR37_1.out HB43.out) HC37_1.out e86).mono ?_)
          rintro e w87 ⟨rfl, hb⟩
          refine ⟨_, rfl, ?_⟩
          clear e86
          replace HB0 := Aside0.mk (below_step HB0.out hb)
          replace HB9 := Aside0.mk (below_step HB9.out hb)
          replace HB43 := Aside0.mk (below_step HB43.out hb)
          replace HB50 := Aside0.mk (below_step HB50.out hb)
          replace HB57 := Aside0.mk (below_step HB57.out hb)
          replace HB64 := Aside0.mk (below_step HB64.out hb)
          replace HB74 := Aside0.mk (below_step HB74.out hb)
          clear hb
          refine hK.out _ _ ⟨(blk_cell (blk_below BK8_41.out HB43.out) 0).trans rfl, (blk_cell (blk_below BK8_41.out HB43.out) 1).trans rfl, (blk_cell (blk_below BK8_41.out HB43.out) 2).trans rfl, (blk_cell (blk_below BK11_55.out HB57.out) 0).trans rfl, (blk_cell (blk_below BK11_55.out HB57.out) 1).trans rfl, (blk_cell (blk_below BK11_55.out HB57.out) 2).trans rfl, (blk_cell (blk_below BK13_62.out HB64.out) 0).trans rfl, (blk_cell (blk_below BK13_62.out HB64.out) 1).trans rfl, (blk_cell (blk_below BK13_62.out HB64.out) 2).trans rfl, (blk_cell (blk_below BK15_69.out HB74.out) 0).trans rfl, (blk_cell (blk_below BK15_69.out HB74.out) 1).trans rfl, (blk_cell (blk_below BK15_69.out HB74.out) 2).trans rfl, (blk_cell (blk_below BK16_71.out HB74.out) 0).trans rfl, (blk_cell (blk_below BK16_71.out HB74.out) 1).trans rfl, (blk_cell (blk_below BK16_71.out HB74.out) 2).trans rfl⟩ (fun hHeld => ?_)
          clear hK K
          refine norm_ (a' := ?_) ?_ ?_
          rotate_left
          · show Act.put _ (some 142) _ = _
            simp only [Act.put, List.setIfInBounds_toArray, List.set_cons_zero, List.set_cons_succ, i64_w, i32_w]
            rfl
          refine pure_ (i := 27) (N := some 143) (v := ?_) (a' := ?_) #[true, true, true, true, true, true, true, true, true, true, true, true, true, true, true, true, true, true, true, true, true, true, true, true, true, true, true, true, false, false, false, false, false, false, false, false, false, false, false] rfl rfl (any_of HT_.out (by kernel_rfl)) (fun _ _ _ h => h) (Or.inl ⟨by rfl, ?_⟩) ?_ ?_
          rotate_left
          · intro w'
            go_simp
            with_reducible rfl
          rotate_left
          · simp only [Act.put, List.setIfInBounds_toArray, List.set_cons_zero, List.set_cons_succ, i64_w, i32_w]
            rfl
          refine pure_ (i := 28) (N := some 144) (v := ?_) (a' := ?_) #[true, true, true, true, true, true, true, true, true, true, true, true, true, true, true, true, true, true, true, true, true, true, true, true, true, true, true, true, true, false, false, false, false, false, false, false, false, false, false] rfl rfl (any_of HT_.out (by kernel_rfl)) (fun _ _ _ h => h) (Or.inl ⟨by rfl, ?_⟩) ?_ ?_
          rotate_left
          · intro w'
            go_simp
            with_reducible rfl
          rotate_left
          · simp only [Act.put, List.setIfInBounds_toArray, List.set_cons_zero, List.set_cons_succ, i64_w, i32_w]
            rfl
          refine take_ (i := 29) (N := some 145) (v := ?_) (a' := ?_) #[true, true, true, true, true, true, true, true, true, true, true, true, true, true, true, true, true, true, true, true, true, true, true, true, true, true, true, true, true, true, false, false, false, false, false, false, false, false, false] rfl rfl (take_ofW HT_.out HW_.out (by kernel_rfl)) (fun _ _ _ h => h) (Or.inl ⟨by rfl, ?_⟩) hHeld ?_ ?_
          rotate_left
          · rintro w' ⟨s0, s1, s2, s3, s4, s5, s6, s7, s8, s9, s10, s11, s12, s13, s14⟩
            go_simp
            with_reducible rfl
          rotate_left
          · simp only [Act.put, List.setIfInBounds_toArray, List.set_cons_zero, List.set_cons_succ, i64_w, i32_w]
            rfl
          refine one_ (i := 30) (N := some 146) #[true, true, true, true, true, true, true, true, true, true, true, true, true, true, true, true, true, true, true, true, true, true, true, true, true, true, true, true, true, true, true, false, false, false, false, false, false, false, false] rfl rfl (one_of HT_.out (by kernel_rfl)) (by decide) (fun K hK => ?_)
          refine goes_ Try.func7 (by kernel_rfl) rfl #[.agg #[.int .i64 r0, .slice A37_0 r1.length c37_0, .slice A37_1 r2.length c37_1]] (by rfl) rfl rfl (by (try simp only [List.map_toArray, List.map_cons, List.map_nil]); first | done | rfl | (simp only [List.length_drop, List.length_take]; rfl)) ?_
          have hh := hcbp
          obtain ⟨k88, e88⟩ := hh
          (with_reducible refine (impl_CountBags.calls k88 r0 _ _ r1 _ _ r2 0 _ (Kd.C_below HR37_0.out HB43.out) HC37_0.out (Kd.C_below HR37_1.out HB43.out) HC37_1.out e88).mono ?_)
          rintro e w89 ⟨rfl, hb⟩
          refine ⟨_, rfl, ?_⟩
          clear e88
          replace HB0 := Aside0.mk (below_step HB0.out hb)
          replace HB9 := Aside0.mk (below_step HB9.out hb)
          replace HB43 := Aside0.mk (below_step HB43.out hb)
          replace HB50 := Aside0.mk (below_step HB50.out hb)
          replace HB57 := Aside0.mk (below_step HB57.out hb)
          replace HB64 := Aside0.mk (below_step HB64.out hb)
          replace HB74 := Aside0.mk (below_step HB74.out hb)
          clear hb
          refine hK.out _ _ ⟨(blk_cell (blk_below BK8_41.out HB43.out) 0).trans rfl, (blk_cell (blk_below BK8_41.out HB43.out) 1).trans rfl, (blk_cell (blk_below BK8_41.out HB43.out) 2).trans rfl, (blk_cell (blk_below BK11_55.out HB57.out) 0).trans rfl, (blk_cell (blk_below BK11_55.out HB57.out) 1).trans rfl, (blk_cell (blk_below BK11_55.out HB57.out) 2).trans rfl, (blk_cell (blk_below BK13_62.out HB64.out) 0).trans rfl, (blk_cell (blk_below BK13_62.out HB64.out) 1).trans rfl, (blk_cell (blk_below BK13_62.out HB64.out) 2).trans rfl, (blk_cell (blk_below BK15_69.out HB74.out) 0).trans rfl, (blk_cell (blk_below BK15_69.out HB74.out) 1).trans rfl, (blk_cell (blk_below BK15_69.out HB74.out) 2).trans rfl, (blk_cell (blk_below BK16_71.out HB74.out) 0).trans rfl, (blk_cell (blk_below BK16_71.out HB74.out) 1).trans rfl, (blk_cell (blk_below BK16_71.out HB74.out) 2).trans rfl⟩ (fun hHeld => ?_)
          clear hK K
          refine norm_ (a' := ?_) ?_ ?_
          rotate_left
          · show Act.put _ (some 146) _ = _
            simp only [Act.put, List.setIfInBounds_toArray, List.set_cons_zero, List.set_cons_succ, i64_w, i32_w]
            rfl
          refine pure_ (i := 31) (N := some 147) (v := ?_) (a' := ?_) #[true, true, true, true, true, true, true, true, true, true, true, true, true, true, true, true, true, true, true, true, true, true, true, true, true, true, true, true, true, true, true, true, false, false, false, false, false, false, false] rfl rfl (any_of HT_.out (by kernel_rfl)) (fun _ _ _ h => h) (Or.inl ⟨by rfl, ?_⟩) ?_ ?_
          rotate_left
          · intro w'
            go_simp
            with_reducible rfl
          rotate_left
          · simp only [Act.put, List.setIfInBounds_toArray, List.set_cons_zero, List.set_cons_succ, i64_w, i32_w]
            rfl
          refine pure_ (i := 32) (N := some 148) (v := ?_) (a' := ?_) #[true, true, true, true, true, true, true, true, true, true, true, true, true, true, true, true, true, true, true, true, true, true, true, true, true, true, true, true, true, true, true, true, true, false, false, false, false, false, false] rfl rfl (any_of HT_.out (by kernel_rfl)) (fun _ _ _ h => h) (Or.inl ⟨by rfl, ?_⟩) ?_ ?_
          rotate_left
          · intro w'
            go_simp
            with_reducible rfl
          rotate_left
          · simp only [Act.put, List.setIfInBounds_toArray, List.set_cons_zero, List.set_cons_succ, i64_w, i32_w]
            rfl
          refine take_ (i := 33) (N := some 149) (v := ?_) (a' := ?_) #[true, true, true, true, true, true, true, true, true, true, true, true, true, true, true, true, true, true, true, true, true, true, true, true, true, true, true, true, true, true, true, true, true, true, false, false, false, false, false] rfl rfl (take_ofW HT_.out HW_.out (by kernel_rfl)) (fun _ _ _ h => h) (Or.inl ⟨by rfl, ?_⟩) hHeld ?_ ?_
          rotate_left
          · rintro w' ⟨s0, s1, s2, s3, s4, s5, s6, s7, s8, s9, s10, s11, s12, s13, s14⟩
            go_simp
            with_reducible rfl
          rotate_left
          · simp only [Act.put, List.setIfInBounds_toArray, List.set_cons_zero, List.set_cons_succ, i64_w, i32_w]
            rfl
          refine one_ (i := 34) (N := some 150) #[true, true, true, true, true, true, true, true, true, true, true, true, true, true, true, true, true, true, true, true, true, true, true, true, true, true, true, true, true, true, true, true, true, true, true, false, false, false, false] rfl rfl (one_of HT_.out (by kernel_rfl)) (by decide) (fun K hK => ?_)
          refine goes_ Try.func11 (by kernel_rfl) rfl #[.agg #[.int .i64 r0, .slice A37_0 r1.length c37_0, .slice A37_1 r2.length c37_1]] (by rfl) rfl rfl (by (try simp only [List.map_toArray, List.map_cons, List.map_nil]); first | done | rfl | (simp only [List.length_drop, List.length_take]; rfl)) ?_
          have hh := hdap
          obtain ⟨k90, e90⟩ := hh
          (with_reducible refine (impl_IsData.calls k90 r0 _ _ r1 _ _ r2 true _ (Kd.C_below HR37_0.out HB43.out) HC37_0.out (Kd.C_below HR37_1.out HB43.out) HC37_1.out e90).mono ?_)
          rintro e w91 ⟨rfl, hb⟩
          refine ⟨_, rfl, ?_⟩
          clear e90
          replace HB0 := Aside0.mk (below_step HB0.out hb)
          replace HB9 := Aside0.mk (below_step HB9.out hb)
          replace HB43 := Aside0.mk (below_step HB43.out hb)
          replace HB50 := Aside0.mk (below_step HB50.out hb)
          replace HB57 := Aside0.mk (below_step HB57.out hb)
          replace HB64 := Aside0.mk (below_step HB64.out hb)
          replace HB74 := Aside0.mk (below_step HB74.out hb)
          clear hb
          refine hK.out _ _ ⟨(blk_cell (blk_below BK8_41.out HB43.out) 0).trans rfl, (blk_cell (blk_below BK8_41.out HB43.out) 1).trans rfl, (blk_cell (blk_below BK8_41.out HB43.out) 2).trans rfl, (blk_cell (blk_below BK11_55.out HB57.out) 0).trans rfl, (blk_cell (blk_below BK11_55.out HB57.out) 1).trans rfl, (blk_cell (blk_below BK11_55.out HB57.out) 2).trans rfl, (blk_cell (blk_below BK13_62.out HB64.out) 0).trans rfl, (blk_cell (blk_below BK13_62.out HB64.out) 1).trans rfl, (blk_cell (blk_below BK13_62.out HB64.out) 2).trans rfl, (blk_cell (blk_below BK15_69.out HB74.out) 0).trans rfl, (blk_cell (blk_below BK15_69.out HB74.out) 1).trans rfl, (blk_cell (blk_below BK15_69.out HB74.out) 2).trans rfl, (blk_cell (blk_below BK16_71.out HB74.out) 0).trans rfl, (blk_cell (blk_below BK16_71.out HB74.out) 1).trans rfl, (blk_cell (blk_below BK16_71.out HB74.out) 2).trans rfl⟩ (fun hHeld => ?_)
          clear hK K
          refine norm_ (a' := ?_) ?_ ?_
          rotate_left
          · show Act.put _ (some 150) _ = _
            simp only [Act.put, List.setIfInBounds_toArray, List.set_cons_zero, List.set_cons_succ, i64_w, i32_w]
            rfl
          refine pure_ (i := 35) (N := some 151) (v := ?_) (a' := ?_) #[true, true, true, true, true, true, true, true, true, true, true, true, true, true, true, true, true, true, true, true, true, true, true, true, true, true, true, true, true, true, true, true, true, true, true, true, false, false, false] rfl rfl (any_of HT_.out (by kernel_rfl)) (fun _ _ _ h => h) (Or.inl ⟨by rfl, ?_⟩) ?_ ?_
          rotate_left
          · intro w'
            go_simp
            with_reducible rfl
          rotate_left
          · simp only [Act.put, List.setIfInBounds_toArray, List.set_cons_zero, List.set_cons_succ, i64_w, i32_w]
            rfl
          refine pure_ (i := 36) (N := some 152) (v := ?_) (a' := ?_) #[true, true, true, true, true, true, true, true, true, true, true, true, true, true, true, true, true, true, true, true, true, true, true, true, true, true, true, true, true, true, true, true, true, true, true, true, true, false, false] rfl rfl (any_of HT_.out (by kernel_rfl)) (fun _ _ _ h => h) (Or.inl ⟨by rfl, ?_⟩) ?_ ?_
          rotate_left
          · intro w'
            go_simp
            with_reducible rfl
          rotate_left
          · simp only [Act.put, List.setIfInBounds_toArray, List.set_cons_zero, List.set_cons_succ, i64_w, i32_w]
            rfl
          refine pure_ (i := 37) (N := some 153) (v := ?_) (a' := ?_) #[true, true, true, true, true, true, true, true, true, true, true, true, true, true, true, true, true, true, true, true, true, true, true, true, true, true, true, true, true, true, true, true, true, true, true, true, true, true, false] rfl rfl (any_of HT_.out (by kernel_rfl)) (fun _ _ _ h => h) (Or.inl ⟨by rfl, ?_⟩) ?_ ?_
          rotate_left
          · intro w'
            go_simp
            with_reducible rfl
          rotate_left
          · simp only [Act.put, List.setIfInBounds_toArray, List.set_cons_zero, List.set_cons_succ, i64_w, i32_w]
            rfl
          refine pure_ (i := 38) (N := some 2) (v := ?_) (a' := ?_) #[true, true, true, true, true, true, true, true, true, true, true, true, true, true, true, true, true, true, true, true, true, true, true, true, true, true, true, true, true, true, true, true, true, true, true, true, true, true, true] rfl rfl (any_of HT_.out (by kernel_rfl)) (fun _ _ _ h => h) (Or.inl ⟨by rfl, ?_⟩) ?_ ?_
          rotate_left
          · intro w'
            go_simp
            with_reducible rfl
          rotate_left
          · simp only [Act.put, List.setIfInBounds_toArray, List.set_cons_zero, List.set_cons_succ, i64_w, i32_w]
            rfl
          refine done_ (done_of HT_.out (by kernel_rfl)) ?_
          clear hHeld HT_ HW_
          try go_wp2
          go_ret
          exact ⟨rfl, HB0.out⟩
        | false =>
          replace HB0 := Aside0.mk (below_drew1 HB0.out)
          replace HB9 := Aside0.mk (below_drew1 HB9.out)
          replace HB43 := Aside0.mk (below_drew1 HB43.out)
          replace HB50 := Aside0.mk (below_drew1 HB50.out)
          replace HB57 := Aside0.mk (below_drew1 HB57.out)
          replace HB64 := Aside0.mk (below_drew1 HB64.out)
          replace HB74 := Aside0.mk (below_drew1 HB74.out)
          refine start_ (n := 39) (S := fun w' => w'.cell? ⟨gb8_41, 0, none⟩ = some (.int .i64 r0) ∧ w'.cell? ⟨gb8_41, 1, none⟩ = some (.slice A37_0 r1.length c37_0) ∧ w'.cell? ⟨gb8_41, 2, none⟩ = some (.slice A37_1 r2.length c37_1) ∧ w'.cell? ⟨gb11_55, 0, none⟩ = some (.int .i64 f0) ∧ w'.cell? ⟨gb11_55, 1, none⟩ = some (.slice A51_0 f1.length c51_0) ∧ w'.cell? ⟨gb11_55, 2, none⟩ = some (.slice A51_1 f2.length c51_1) ∧ w'.cell? ⟨gb13_62, 0, none⟩ = some (.int .i64 g0) ∧ w'.cell? ⟨gb13_62, 1, none⟩ = some (.slice A58_0 g1.length c58_0) ∧ w'.cell? ⟨gb13_62, 2, none⟩ = some (.slice A58_1 g2.length c58_1) ∧ w'.cell? ⟨gb15_69, 0, none⟩ = some (.int .i64 a0) ∧ w'.cell? ⟨gb15_69, 1, none⟩ = some (.slice A65_0 a1.length c65_0) ∧ w'.cell? ⟨gb15_69, 2, none⟩ = some (.slice A65_1 a2.length c65_1) ∧ w'.cell? ⟨gb16_71, 0, none⟩ = some (.int .i64 b0) ∧ w'.cell? ⟨gb16_71, 1, none⟩ = some (.slice A65_2 b1.length c65_2) ∧ w'.cell? ⟨gb16_71, 2, none⟩ = some (.slice A65_3 b2.length c65_3)) (ds := []) #[false, false, false, false, false, false, false, false, false, false, false, false, false, false, false, false, false, false, false, false, false, false, false, false, false, false, false, false, false, false, false, false, false, false, false, false, false, false, false] (by kernel_rfl) rfl rfl ⟨(blk_cell (blk_below BK8_41.out HB43.out) 0).trans rfl, (blk_cell (blk_below BK8_41.out HB43.out) 1).trans rfl, (blk_cell (blk_below BK8_41.out HB43.out) 2).trans rfl, (blk_cell (blk_below BK11_55.out HB57.out) 0).trans rfl, (blk_cell (blk_below BK11_55.out HB57.out) 1).trans rfl, (blk_cell (blk_below BK11_55.out HB57.out) 2).trans rfl, (blk_cell (blk_below BK13_62.out HB64.out) 0).trans rfl, (blk_cell (blk_below BK13_62.out HB64.out) 1).trans rfl, (blk_cell (blk_below BK13_62.out HB64.out) 2).trans rfl, (blk_cell (blk_below BK15_69.out HB74.out) 0).trans rfl, (blk_cell (blk_below BK15_69.out HB74.out) 1).trans rfl, (blk_cell (blk_below BK15_69.out HB74.out) 2).trans rfl, (blk_cell (blk_below BK16_71.out HB74.out) 0).trans rfl, (blk_cell (blk_below BK16_71.out HB74.out) 1).trans rfl, (blk_cell (blk_below BK16_71.out HB74.out) 2).trans rfl⟩ (fun hHeld => ?_); refine with_tabW laws_FnTypes.tab23 laws_FnTypes.bits23 (fun HT_ HW_ => ?_)
          generalize w73.drew = w92 at HB0 HB9 HB43 HB50 HB57 HB64 HB74 hHeld ⊢
          refine take_ (i := 0) (N := some 116) (v := ?_) (a' := ?_) #[true, false, false, false, false, false, false, false, false, false, false, false, false, false, false, false, false, false, false, false, false, false, false, false, false, false, false, false, false, false, false, false, false, false, false, false, false, false, false] rfl rfl (take_ofW HT_.out HW_.out (by kernel_rfl)) (fun _ _ _ h => h) (Or.inl ⟨by rfl, ?_⟩) hHeld ?_ ?_
          rotate_left
          · rintro w' ⟨s0, s1, s2, s3, s4, s5, s6, s7, s8, s9, s10, s11, s12, s13, s14⟩
            go_simp
            with_reducible rfl
          rotate_left
          · simp only [Act.put, List.setIfInBounds_toArray, List.set_cons_zero, List.set_cons_succ, i64_w, i32_w]
            rfl
          refine take_ (i := 2) (N := some 118) (v := ?_) (a' := ?_) #[true, false, true, false, false, false, false, false, false, false, false, false, false, false, false, false, false, false, false, false, false, false, false, false, false, false, false, false, false, false, false, false, false, false, false, false, false, false, false] rfl rfl (take_ofW HT_.out HW_.out (by kernel_rfl)) (fun _ _ _ h => h) (Or.inl ⟨by rfl, ?_⟩) hHeld ?_ ?_
          rotate_left
          · rintro w' ⟨s0, s1, s2, s3, s4, s5, s6, s7, s8, s9, s10, s11, s12, s13, s14⟩
            go_simp
            with_reducible rfl
          rotate_left
          · simp only [Act.put, List.setIfInBounds_toArray, List.set_cons_zero, List.set_cons_succ, i64_w, i32_w]
            rfl
          refine one_ (i := 1) (N := some 117) #[true, true, true, false, false, false, false, false, false, false, false, false, false, false, false, false, false, false, false, false, false, false, false, false, false, false, false, false, false, false, false, false, false, false, false, false, false, false, false] rfl rfl (one_of HT_.out (by kernel_rfl)) (by decide) (fun K hK => ?_)
          refine goes_ Try.func18 (by kernel_rfl) rfl #[.agg #[.int .i64 r0, .slice A37_0 r1.length c37_0, .slice A37_1 r2.length c37_1]] (by rfl) rfl rfl (by (try simp only [List.map_toArray, List.map_cons, List.map_nil]); first | done | rfl | (simp only [List.length_drop, List.length_take]; rfl)) ?_
          have hh := hR1
          obtain ⟨k93, e93⟩ := hh
          (with_reducible refine (impl_IsRow.calls k93 r0 _ _ r1 _ _ r2 false _ (Kd.C_below HR37_0.out HB43.out) HC37_0.out (Kd.C_below HR37_1.out HB43.out) HC37_1.out e93).mono ?_)
          rintro e w94 ⟨rfl, hb⟩
          refine ⟨_, rfl, ?_⟩
          clear e93
          replace HB0 := Aside0.mk (below_step HB0.out hb)
          replace HB9 := Aside0.mk (below_step HB9.out hb)
          replace HB43 := Aside0.mk (below_step HB43.out hb)
          replace HB50 := Aside0.mk (below_step HB50.out hb)
          replace HB57 := Aside0.mk (below_step HB57.out hb)
          replace HB64 := Aside0.mk (below_step HB64.out hb)
          replace HB74 := Aside0.mk (below_step HB74.out hb)
          clear hb
          refine hK.out _ _ ⟨(blk_cell (blk_below BK8_41.out HB43.out) 0).trans rfl, (blk_cell (blk_below BK8_41.out HB43.out) 1).trans rfl, (blk_cell (blk_below BK8_41.out HB43.out) 2).trans rfl, (blk_cell (blk_below BK11_55.out HB57.out) 0).trans rfl, (blk_cell (blk_below BK11_55.out HB57.out) 1).trans rfl, (blk_cell (blk_below BK11_55.out HB57.out) 2).trans rfl, (blk_cell (blk_below BK13_62.out HB64.out) 0).trans rfl, (blk_cell (blk_below BK13_62.out HB64.out) 1).trans rfl, (blk_cell (blk_below BK13_62.out HB64.out) 2).trans rfl, (blk_cell (blk_below BK15_69.out HB74.out) 0).trans rfl, (blk_cell (blk_below BK15_69.out HB74.out) 1).trans rfl, (blk_cell (blk_below BK15_69.out HB74.out) 2).trans rfl, (blk_cell (blk_below BK16_71.out HB74.out) 0).trans rfl, (blk_cell (blk_below BK16_71.out HB74.out) 1).trans rfl, (blk_cell (blk_below BK16_71.out HB74.out) 2).trans rfl⟩ (fun hHeld => ?_)
          clear hK K
          refine norm_ (a' := ?_) ?_ ?_
          rotate_left
          · show Act.put _ (some 117) _ = _
            simp only [Act.put, List.setIfInBounds_toArray, List.set_cons_zero, List.set_cons_succ, i64_w, i32_w]
            rfl
          refine one_ (i := 3) (N := some 119) #[true, true, true, true, false, false, false, false, false, false, false, false, false, false, false, false, false, false, false, false, false, false, false, false, false, false, false, false, false, false, false, false, false, false, false, false, false, false, false] rfl rfl (one_of HT_.out (by kernel_rfl)) (by decide) (fun K hK => ?_)
          refine goes_ Try.func19 (by kernel_rfl) rfl #[.agg #[.int .i64 r0, .slice A37_0 r1.length c37_0, .slice A37_1 r2.length c37_1]] (by rfl) rfl rfl (by (try simp only [List.map_toArray, List.map_cons, List.map_nil]); first | done | rfl | (simp only [List.length_drop, List.length_take]; rfl)) ?_
          have hh := hR2
          obtain ⟨k95, e95⟩ := hh
          (with_reducible refine (spec_IsRow.calls k95 r0 _ _ r1 _ _ r2 false _ (Kd.C_below HR37_0.out HB43.out) HC37_0.out (Kd.C_below HR37_1.out HB43.out) HC37_1.out e95).mono ?_)
          rintro e w96 ⟨rfl, hb⟩
          refine ⟨_, rfl, ?_⟩
          clear e95
          replace HB0 := Aside0.mk (below_step HB0.out hb)
          replace HB9 := Aside0.mk (below_step HB9.out hb)
          replace HB43 := Aside0.mk (below_step HB43.out hb)
          replace HB50 := Aside0.mk (below_step HB50.out hb)
          replace HB57 := Aside0.mk (below_step HB57.out hb)
          replace HB64 := Aside0.mk (below_step HB64.out hb)
          replace HB74 := Aside0.mk (below_step HB74.out hb)
          clear hb
          refine hK.out _ _ ⟨(blk_cell (blk_below BK8_41.out HB43.out) 0).trans rfl, (blk_cell (blk_below BK8_41.out HB43.out) 1).trans rfl, (blk_cell (blk_below BK8_41.out HB43.out) 2).trans rfl, (blk_cell (blk_below BK11_55.out HB57.out) 0).trans rfl, (blk_cell (blk_below BK11_55.out HB57.out) 1).trans rfl, (blk_cell (blk_below BK11_55.out HB57.out) 2).trans rfl, (blk_cell (blk_below BK13_62.out HB64.out) 0).trans rfl, (blk_cell (blk_below BK13_62.out HB64.out) 1).trans rfl, (blk_cell (blk_below BK13_62.out HB64.out) 2).trans rfl, (blk_cell (blk_below BK15_69.out HB74.out) 0).trans rfl, (blk_cell (blk_below BK15_69.out HB74.out) 1).trans rfl, (blk_cell (blk_below BK15_69.out HB74.out) 2).trans rfl, (blk_cell (blk_below BK16_71.out HB74.out) 0).trans rfl, (blk_cell (blk_below BK16_71.out HB74.out) 1).trans rfl, (blk_cell (blk_below BK16_71.out HB74.out) 2).trans rfl⟩ (fun hHeld => ?_)
          clear hK K
          refine norm_ (a' := ?_) ?_ ?_
          rotate_left
          · show Act.put _ (some 119) _ = _
            simp only [Act.put, List.setIfInBounds_toArray, List.set_cons_zero, List.set_cons_succ, i64_w, i32_w]
            rfl
          refine pure_ (i := 4) (N := some 120) (v := ?_) (a' := ?_) #[true, true, true, true, true, false, false, false, false, false, false, false, false, false, false, false, false, false, false, false, false, false, false, false, false, false, false, false, false, false, false, false, false, false, false, false, false, false, false] rfl rfl (any_of HT_.out (by kernel_rfl)) (fun _ _ _ h => h) (Or.inl ⟨by rfl, ?_⟩) ?_ ?_
          rotate_left
          · intro w'
            go_simp
            with_reducible rfl
          rotate_left
          · simp only [Act.put, List.setIfInBounds_toArray, List.set_cons_zero, List.set_cons_succ, i64_w, i32_w]
            rfl
          refine pure_ (i := 5) (N := some 121) (v := ?_) (a' := ?_) #[true, true, true, true, true, true, false, false, false, false, false, false, false, false, false, false, false, false, false, false, false, false, false, false, false, false, false, false, false, false, false, false, false, false, false, false, false, false, false] rfl rfl (any_of HT_.out (by kernel_rfl)) (fun _ _ _ h => h) (Or.inl ⟨by rfl, ?_⟩) ?_ ?_
          rotate_left
          · intro w'
            go_simp
            with_reducible rfl
          rotate_left
          · simp only [Act.put, List.setIfInBounds_toArray, List.set_cons_zero, List.set_cons_succ, i64_w, i32_w]
            rfl
          refine pure_ (i := 6) (N := some 122) (v := ?_) (a' := ?_) #[true, true, true, true, true, true, true, false, false, false, false, false, false, false, false, false, false, false, false, false, false, false, false, false, false, false, false, false, false, false, false, false, false, false, false, false, false, false, false] rfl rfl (any_of HT_.out (by kernel_rfl)) (fun _ _ _ h => h) (Or.inl ⟨by rfl, ?_⟩) ?_ ?_
          rotate_left
          · intro w'
            go_simp
            with_reducible rfl
          rotate_left
          · simp only [Act.put, List.setIfInBounds_toArray, List.set_cons_zero, List.set_cons_succ, i64_w, i32_w]
            rfl
          refine pure_ (i := 7) (N := some 123) (v := ?_) (a' := ?_) #[true, true, true, true, true, true, true, true, false, false, false, false, false, false, false, false, false, false, false, false, false, false, false, false, false, false, false, false, false, false, false, false, false, false, false, false, false, false, false] rfl rfl (any_of HT_.out (by kernel_rfl)) (fun _ _ _ h => h) (Or.inl ⟨by rfl, ?_⟩) ?_ ?_
          rotate_left
          · intro w'
            go_simp
            with_reducible rfl
          rotate_left
          · simp only [Act.put, List.setIfInBounds_toArray, List.set_cons_zero, List.set_cons_succ, i64_w, i32_w]
            rfl
          refine pure_ (i := 8) (N := some 124) (v := ?_) (a' := ?_) #[true, true, true, true, true, true, true, true, true, false, false, false, false, false, false, false, false, false, false, false, false, false, false, false, false, false, false, false, false, false, false, false, false, false, false, false, false, false, false] rfl rfl (any_of HT_.out (by kernel_rfl)) (fun _ _ _ h => h) (Or.inl ⟨by rfl, ?_⟩) ?_ ?_
          rotate_left
          · intro w'
            go_simp
            with_reducible rfl
          rotate_left
          · simp only [Act.put, List.setIfInBounds_toArray, List.set_cons_zero, List.set_cons_succ, i64_w, i32_w]
            rfl
          refine pure_ (i := 9) (N := some 125) (v := ?_) (a' := ?_) #[true, true, true, true, true, true, true, true, true, true, false, false, false, false, false, false, false, false, false, false, false, false, false, false, false, false, false, false, false, false, false, false, false, false, false, false, false, false, false] rfl rfl (any_of HT_.out (by kernel_rfl)) (fun _ _ _ h => h) (Or.inl ⟨by rfl, ?_⟩) ?_ ?_
          rotate_left
          · intro w'
            go_simp
            with_reducible rfl
          rotate_left
          · simp only [Act.put, List.setIfInBounds_toArray, List.set_cons_zero, List.set_cons_succ, i64_w, i32_w]
            rfl
          refine pure_ (i := 10) (N := some 126) (v := ?_) (a' := ?_) #[true, true, true, true, true, true, true, true, true, true, true, false, false, false, false, false, false, false, false, false, false, false, false, false, false, false, false, false, false, false, false, false, false, false, false, false, false, false, false] rfl rfl (any_of HT_.out (by kernel_rfl)) (fun _ _ _ h => h) (Or.inl ⟨by rfl, ?_⟩) ?_ ?_
          rotate_left
          · intro w'
            go_simp
            with_reducible rfl
          rotate_left
          · simp only [Act.put, List.setIfInBounds_toArray, List.set_cons_zero, List.set_cons_succ, i64_w, i32_w]
            rfl
          refine take_ (i := 11) (N := some 127) (v := ?_) (a' := ?_) #[true, true, true, true, true, true, true, true, true, true, true, true, false, false, false, false, false, false, false, false, false, false, false, false, false, false, false, false, false, false, false, false, false, false, false, false, false, false, false] rfl rfl (take_ofW HT_.out HW_.out (by kernel_rfl)) (fun _ _ _ h => h) (Or.inl ⟨by rfl, ?_⟩) hHeld ?_ ?_
          rotate_left
          · rintro w' ⟨s0, s1, s2, s3, s4, s5, s6, s7, s8, s9, s10, s11, s12, s13, s14⟩
            go_simp
            with_reducible rfl
          rotate_left
          · simp only [Act.put, List.setIfInBounds_toArray, List.set_cons_zero, List.set_cons_succ, i64_w, i32_w]
            rfl
          refine take_ (i := 12) (N := some 128) (v := ?_) (a' := ?_) #[true, true, true, true, true, true, true, true, true, true, true, true, true, false, false, false, false, false, false, false, false, false, false, false, false, false, false, false, false, false, false, false, false, false, false, false, false, false, false] rfl rfl (take_ofW HT_.out HW_.out (by kernel_rfl)) (fun _ _ _ h => h) (Or.inl ⟨by rfl, ?_⟩) hHeld ?_ ?_
          rotate_left
          · rintro w' ⟨s0, s1, s2, s3, s4, s5, s6, s7, s8, s9, s10, s11, s12, s13, s14⟩
            go_simp
            with_reducible rfl
          rotate_left
          · simp only [Act.put, List.setIfInBounds_toArray, List.set_cons_zero, List.set_cons_succ, i64_w, i32_w]
            rfl
          refine one_ (i := 13) (N := some 129) #[true, true, true, true, true, true, true, true, true, true, true, true, true, true, false, false, false, false, false, false, false, false, false, false, false, false, false, false, false, false, false, false, false, false, false, false, false, false, false] rfl rfl (one_of HT_.out (by kernel_rfl)) (by decide) (fun K hK => ?_)
          refine goes_ Try.func20 (by kernel_rfl) rfl #[.agg #[.int .i64 f0, .slice A51_0 f1.length c51_0, .slice A51_1 f2.length c51_1], .agg #[.int .i64 g0, .slice A58_0 g1.length c58_0, .slice A58_1 g2.length c58_1]] (by rfl) rfl rfl (by (try simp only [List.map_toArray, List.map_cons, List.map_nil]); first | done | rfl | (simp only [List.length_drop, List.length_take]; rfl)) ?_
          have hh := p14
          obtain ⟨k97, e97⟩ := hh
          (with_reducible refine (impl_EqualType.calls k97 f0 _ _ f1 _ _ f2 g0 _ _ g1 _ _ g2 true _ (Kd.C_below HR51_0.out HB57.out) HC51_0.out (Kd.C_below HR51_1.out HB57.out) HC51_1.out (Kd.C_below HR58_0.out HB64.out) HC58_0.out (Kd.C_below HR58_1.out HB64.out) HC58_1.out e97).mono ?_)
          rintro e w98 ⟨rfl, hb⟩
          refine ⟨_, rfl, ?_⟩
          clear e97
          replace HB0 := Aside0.mk (below_step HB0.out hb)
          replace HB9 := Aside0.mk (below_step HB9.out hb)
          replace HB43 := Aside0.mk (below_step HB43.out hb)
          replace HB50 := Aside0.mk (below_step HB50.out hb)
          replace HB57 := Aside0.mk (below_step HB57.out hb)
          replace HB64 := Aside0.mk (below_step HB64.out hb)
          replace HB74 := Aside0.mk (below_step HB74.out hb)
          clear hb
          refine hK.out _ _ ⟨(blk_cell (blk_below BK8_41.out HB43.out) 0).trans rfl, (blk_cell (blk_below BK8_41.out HB43.out) 1).trans rfl, (blk_cell (blk_below BK8_41.out HB43.out) 2).trans rfl, (blk_cell (blk_below BK11_55.out HB57.out) 0).trans rfl, (blk_cell (blk_below BK11_55.out HB57.out) 1).trans rfl, (blk_cell (blk_below BK11_55.out HB57.out) 2).trans rfl, (blk_cell (blk_below BK13_62.out HB64.out) 0).trans rfl, (blk_cell (blk_below BK13_62.out HB64.out) 1).trans rfl, (blk_cell (blk_below BK13_62.out HB64.out) 2).trans rfl, (blk_cell (blk_below BK15_69.out HB74.out) 0).trans rfl, (blk_cell (blk_below BK15_69.out HB74.out) 1).trans rfl, (blk_cell (blk_below BK15_69.out HB74.out) 2).trans rfl, (blk_cell (blk_below BK16_71.out HB74.out) 0).trans rfl, (blk_cell (blk_below BK16_71.out HB74.out) 1).trans rfl, (blk_cell (blk_below BK16_71.out HB74.out) 2).trans rfl⟩ (fun hHeld => ?_)
          clear hK K
          refine norm_ (a' := ?_) ?_ ?_
          rotate_left
          · show Act.put _ (some 129) _ = _
            simp only [Act.put, List.setIfInBounds_toArray, List.set_cons_zero, List.set_cons_succ, i64_w, i32_w]
            rfl
          refine pure_ (i := 14) (N := some 130) (v := ?_) (a' := ?_) #[true, true, true, true, true, true, true, true, true, true, true, true, true, true, true, false, false, false, false, false, false, false, false, false, false, false, false, false, false, false, false, false, false, false, false, false, false, false, false] rfl rfl (any_of HT_.out (by kernel_rfl)) (fun _ _ _ h => h) (Or.inl ⟨by rfl, ?_⟩) ?_ ?_
          rotate_left
          · intro w'
            go_simp
            with_reducible rfl
          rotate_left
          · simp only [Act.put, List.setIfInBounds_toArray, List.set_cons_zero, List.set_cons_succ, i64_w, i32_w]
            rfl
          refine pure_ (i := 15) (N := some 131) (v := ?_) (a' := ?_) #[true, true, true, true, true, true, true, true, true, true, true, true, true, true, true, true, false, false, false, false, false, false, false, false, false, false, false, false, false, false, false, false, false, false, false, false, false, false, false] rfl rfl (any_of HT_.out (by kernel_rfl)) (fun _ _ _ h => h) (Or.inl ⟨by rfl, ?_⟩) ?_ ?_
          rotate_left
          · intro w'
            go_simp
            with_reducible rfl
          rotate_left
          · simp only [Act.put, List.setIfInBounds_toArray, List.set_cons_zero, List.set_cons_succ, i64_w, i32_w]
            rfl
          refine take_ (i := 16) (N := some 132) (v := ?_) (a' := ?_) #[true, true, true, true, true, true, true, true, true, true, true, true, true, true, true, true, true, false, false, false, false, false, false, false, false, false, false, false, false, false, false, false, false, false, false, false, false, false, false] rfl rfl (take_ofW HT_.out HW_.out (by kernel_rfl)) (fun _ _ _ h => h) (Or.inl ⟨by rfl, ?_⟩) hHeld ?_ ?_
          rotate_left
          · rintro w' ⟨s0, s1, s2, s3, s4, s5, s6, s7, s8, s9, s10, s11, s12, s13, s14⟩
            go_simp
            with_reducible rfl
          rotate_left
          · simp only [Act.put, List.setIfInBounds_toArray, List.set_cons_zero, List.set_cons_succ, i64_w, i32_w]
            rfl
          refine take_ (i := 17) (N := some 133) (v := ?_) (a' := ?_) #[true, true, true, true, true, true, true, true, true, true, true, true, true, true, true, true, true, true, false, false, false, false, false, false, false, false, false, false, false, false, false, false, false, false, false, false, false, false, false] rfl rfl (take_ofW HT_.out HW_.out (by kernel_rfl)) (fun _ _ _ h => h) (Or.inl ⟨by rfl, ?_⟩) hHeld ?_ ?_
          rotate_left
          · rintro w' ⟨s0, s1, s2, s3, s4, s5, s6, s7, s8, s9, s10, s11, s12, s13, s14⟩
            go_simp
            with_reducible rfl
          rotate_left
          · simp only [Act.put, List.setIfInBounds_toArray, List.set_cons_zero, List.set_cons_succ, i64_w, i32_w]
            rfl
          refine take_ (i := 19) (N := some 135) (v := ?_) (a' := ?_) #[true, true, true, true, true, true, true, true, true, true, true, true, true, true, true, true, true, true, false, true, false, false, false, false, false, false, false, false, false, false, false, false, false, false, false, false, false, false, false] rfl rfl (take_ofW HT_.out HW_.out (by kernel_rfl)) (fun _ _ _ h => h) (Or.inl ⟨by rfl, ?_⟩) hHeld ?_ ?_
          rotate_left
          · rintro w' ⟨s0, s1, s2, s3, s4, s5, s6, s7, s8, s9, s10, s11, s12, s13, s14⟩
            go_simp
            with_reducible rfl
          rotate_left
          · simp only [Act.put, List.setIfInBounds_toArray, List.set_cons_zero, List.set_cons_succ, i64_w, i32_w]
            rfl
          refine take_ (i := 20) (N := some 136) (v := ?_) (a' := ?_) #[true, true, true, true, true, true, true, true, true, true, true, true, true, true, true, true, true, true, false, true, true, false, false, false, false, false, false, false, false, false, false, false, false, false, false, false, false, false, false] rfl rfl (take_ofW HT_.out HW_.out (by kernel_rfl)) (fun _ _ _ h => h) (Or.inl ⟨by rfl, ?_⟩) hHeld ?_ ?_
          rotate_left
          · rintro w' ⟨s0, s1, s2, s3, s4, s5, s6, s7, s8, s9, s10, s11, s12, s13, s14⟩
            go_simp
            with_reducible rfl
          rotate_left
          · simp only [Act.put, List.setIfInBounds_toArray, List.set_cons_zero, List.set_cons_succ, i64_w, i32_w]
            rfl
          refine one_ (i := 18) (N := some 134) #[true, true, true, true, true, true, true, true, true, true, true, true, true, true, true, true, true, true, true, true, true, false, false, false, false, false, false, false, false, false, false, false, false, false, false, false, false, false, false] rfl rfl (one_of HT_.out (by kernel_rfl)) (by decide) (fun K hK => ?_)
          refine goes_ Try.func20 (by kernel_rfl) rfl #[.agg #[.int .i64 a0, .slice A65_0 a1.length c65_0, .slice A65_1 a2.length c65_1], .agg #[.int .i64 b0, .slice A65_2 b1.length c65_2, .slice A65_3 b2.length c65_3]] (by rfl) rfl rfl (by (try simp only [List.map_toArray, List.map_cons, List.map_nil]); first | done | rfl | (simp only [List.length_drop, List.length_take]; rfl)) ?_
          have hh := p15
          obtain ⟨k99, e99⟩ := hh
          (with_reducible refine (impl_EqualType.calls k99 a0 _ _ a1 _ _ a2 b0 _ _ b1 _ _ b2 vE _ (Kd.C_below HR65_0.out HB74.out) HC65_0.out (Kd.C_below HR65_1.out HB74.out) HC65_1.out (Kd.C_below HR65_2.out HB74.out) HC65_2.out (Kd.C_below HR65_3.out HB74.out) HC65_3.out e99).mono ?_)
          rintro e w100 ⟨rfl, hb⟩
          refine ⟨_, rfl, ?_⟩
          clear e99
          replace HB0 := Aside0.mk (below_step HB0.out hb)
          replace HB9 := Aside0.mk (below_step HB9.out hb)
          replace HB43 := Aside0.mk (below_step HB43.out hb)
          replace HB50 := Aside0.mk (below_step HB50.out hb)
          replace HB57 := Aside0.mk (below_step HB57.out hb)
          replace HB64 := Aside0.mk (below_step HB64.out hb)
          replace HB74 := Aside0.mk (below_step HB74.out hb)
          clear hb
          refine hK.out _ _ ⟨(blk_cell (blk_below BK8_41.out HB43.out) 0).trans rfl, (blk_cell (blk_below BK8_41.out HB43.out) 1).trans rfl, (blk_cell (blk_below BK8_41.out HB43.out) 2).trans rfl, (blk_cell (blk_below BK11_55.out HB57.out) 0).trans rfl, (blk_cell (blk_below BK11_55.out HB57.out) 1).trans rfl, (blk_cell (blk_below BK11_55.out HB57.out) 2).trans rfl, (blk_cell (blk_below BK13_62.out HB64.out) 0).trans rfl, (blk_cell (blk_below BK13_62.out HB64.out) 1).trans rfl, (blk_cell (blk_below BK13_62.out HB64.out) 2).trans rfl, (blk_cell (blk_below BK15_69.out HB74.out) 0).trans rfl, (blk_cell (blk_below BK15_69.out HB74.out) 1).trans rfl, (blk_cell (blk_below BK15_69.out HB74.out) 2).trans rfl, (blk_cell (blk_below BK16_71.out HB74.out) 0).trans rfl, (blk_cell (blk_below BK16_71.out HB74.out) 1).trans rfl, (blk_cell (blk_below BK16_71.out HB74.out) 2).trans rfl⟩ (fun hHeld => ?_)
          clear hK K
          refine norm_ (a' := ?_) ?_ ?_
          rotate_left
          · show Act.put _ (some 134) _ = _
            simp only [Act.put, List.setIfInBounds_toArray, List.set_cons_zero, List.set_cons_succ, i64_w, i32_w]
            rfl
          refine one_ (i := 21) (N := some 137) #[true, true, true, true, true, true, true, true, true, true, true, true, true, true, true, true, true, true, true, true, true, true, false, false, false, false, false, false, false, false, false, false, false, false, false, false, false, false, false] rfl rfl (one_of HT_.out (by kernel_rfl)) (by decide) (fun K hK => ?_)
          refine goes_ Try.func21 (by kernel_rfl) rfl #[.agg #[.int .i64 a0, .slice A65_0 a1.length c65_0, .slice A65_1 a2.length c65_1], .agg #[.int .i64 b0, .slice A65_2 b1.length c65_2, .slice A65_3 b2.length c65_3]] (by rfl) rfl rfl (by (try simp only [List.map_toArray, List.map_cons, List.map_nil]); first | done | rfl | (simp only [List.length_drop, List.length_take]; rfl)) ?_
          have hh := p16
          obtain ⟨k101, e101⟩ := hh
          (with_reducible refine (spec_EqualType.calls k101 a0 _ _ a1 _ _ a2 b0 _ _ b1 _ _ b2 vE _ (Kd.C_below HR65_0.out HB74.out) HC65_0.out (Kd.C_below HR65_1.out HB74.out) HC65_1.out (Kd.C_below HR65_2.out HB74.out) HC65_2.out (Kd.C_below HR65_3.out HB74.out) HC65_3.out e101).mono ?_)
          rintro e w102 ⟨rfl, hb⟩
          refine ⟨_, rfl, ?_⟩
          clear e101
          replace HB0 := Aside0.mk (below_step HB0.out hb)
          replace HB9 := Aside0.mk (below_step HB9.out hb)
          replace HB43 := Aside0.mk (below_step HB43.out hb)
          replace HB50 := Aside0.mk (below_step HB50.out hb)
          replace HB57 := Aside0.mk (below_step HB57.out hb)
          replace HB64 := Aside0.mk (below_step HB64.out hb)
          replace HB74 := Aside0.mk (below_step HB74.out hb)
          clear hb
          refine hK.out _ _ ⟨(blk_cell (blk_below BK8_41.out HB43.out) 0).trans rfl, (blk_cell (blk_below BK8_41.out HB43.out) 1).trans rfl, (blk_cell (blk_below BK8_41.out HB43.out) 2).trans rfl, (blk_cell (blk_below BK11_55.out HB57.out) 0).trans rfl, (blk_cell (blk_below BK11_55.out HB57.out) 1).trans rfl, (blk_cell (blk_below BK11_55.out HB57.out) 2).trans rfl, (blk_cell (blk_below BK13_62.out HB64.out) 0).trans rfl, (blk_cell (blk_below BK13_62.out HB64.out) 1).trans rfl, (blk_cell (blk_below BK13_62.out HB64.out) 2).trans rfl, (blk_cell (blk_below BK15_69.out HB74.out) 0).trans rfl, (blk_cell (blk_below BK15_69.out HB74.out) 1).trans rfl, (blk_cell (blk_below BK15_69.out HB74.out) 2).trans rfl, (blk_cell (blk_below BK16_71.out HB74.out) 0).trans rfl, (blk_cell (blk_below BK16_71.out HB74.out) 1).trans rfl, (blk_cell (blk_below BK16_71.out HB74.out) 2).trans rfl⟩ (fun hHeld => ?_)
          clear hK K
          refine norm_ (a' := ?_) ?_ ?_
          rotate_left
          · show Act.put _ (some 137) _ = _
            simp only [Act.put, List.setIfInBounds_toArray, List.set_cons_zero, List.set_cons_succ, i64_w, i32_w]
            rfl
          refine pure_ (i := 22) (N := some 138) (v := ?_) (a' := ?_) #[true, true, true, true, true, true, true, true, true, true, true, true, true, true, true, true, true, true, true, true, true, true, true, false, false, false, false, false, false, false, false, false, false, false, false, false, false, false, false] rfl rfl (any_of HT_.out (by kernel_rfl)) (fun _ _ _ h => h) (Or.inl ⟨by rfl, ?_⟩) ?_ ?_
          rotate_left
          · intro w'
            go_simp
            with_reducible rfl
          rotate_left
          · simp only [Act.put, List.setIfInBounds_toArray, List.set_cons_zero, List.set_cons_succ, i64_w, i32_w]
            rfl
          refine pure_ (i := 23) (N := some 139) (v := ?_) (a' := ?_) #[true, true, true, true, true, true, true, true, true, true, true, true, true, true, true, true, true, true, true, true, true, true, true, true, false, false, false, false, false, false, false, false, false, false, false, false, false, false, false] rfl rfl (any_of HT_.out (by kernel_rfl)) (fun _ _ _ h => h) (Or.inl ⟨by rfl, ?_⟩) ?_ ?_
          rotate_left
          · intro w'
            go_simp
            with_reducible rfl
          rotate_left
          · simp only [Act.put, List.setIfInBounds_toArray, List.set_cons_zero, List.set_cons_succ, i64_w, i32_w]
            rfl
          refine pure_ (i := 24) (N := some 140) (v := ?_) (a' := ?_) #[true, true, true, true, true, true, true, true, true, true, true, true, true, true, true, true, true, true, true, true, true, true, true, true, true, false, false, false, false, false, false, false, false, false, false, false, false, false, false] rfl rfl (any_of HT_.out (by kernel_rfl)) (fun _ _ _ h => h) (Or.inl ⟨by rfl, ?_⟩) ?_ ?_
          rotate_left
          · intro w'
            go_simp
            with_reducible rfl
          rotate_left
          · simp only [Act.put, List.setIfInBounds_toArray, List.set_cons_zero, List.set_cons_succ, i64_w, i32_w]
            rfl
          refine take_ (i := 25) (N := some 141) (v := ?_) (a' := ?_) #[true, true, true, true, true, true, true, true, true, true, true, true, true, true, true, true, true, true, true, true, true, true, true, true, true, true, false, false, false, false, false, false, false, false, false, false, false, false, false] rfl rfl (take_ofW HT_.out HW_.out (by kernel_rfl)) (fun _ _ _ h => h) (Or.inl ⟨by rfl, ?_⟩) hHeld ?_ ?_
          rotate_left
          · rintro w' ⟨s0, s1, s2, s3, s4, s5, s6, s7, s8, s9, s10, s11, s12, s13, s14⟩
            go_simp
            with_reducible rfl
          rotate_left
          · simp only [Act.put, List.setIfInBounds_toArray, List.set_cons_zero, List.set_cons_succ, i64_w, i32_w]
            rfl
          refine one_ (i := 26) (N := some 142) #[true, true, true, true, true, true, true, true, true, true, true, true, true, true, true, true, true, true, true, true, true, true, true, true, true, true, true, false, false, false, false, false, false, false, false, false, false, false, false] rfl rfl (one_of HT_.out (by kernel_rfl)) (by decide) (fun K hK => ?_)
          refine goes_ Try.func18 (by kernel_rfl) rfl #[.agg #[.int .i64 r0, .slice A37_0 r1.length c37_0, .slice A37_1 r2.length c37_1]] (by rfl) rfl rfl (by (try simp only [List.map_toArray, List.map_cons, List.map_nil]); first | done | rfl | (simp only [List.length_drop, List.length_take]; rfl)) ?_
          have hh := hR1
          obtain ⟨k103, e103⟩ := hh
          (with_reducible refine (impl_IsRow.calls k103 r0 _ _ r1 _ _ r2 false _ (Kd.C_below HR37_0.out HB43.out) HC37_0.out (Kd.C_below HR37_1.out HB43.out) HC37_1.out e103).mono ?_)
          rintro e w104 ⟨rfl, hb⟩
          refine ⟨_, rfl, ?_⟩
          clear e103
          replace HB0 := Aside0.mk (below_step HB0.out hb)
          replace HB9 := Aside0.mk (below_step HB9.out hb)
          replace HB43 := Aside0.mk (below_step HB43.out hb)
          replace HB50 := Aside0.mk (below_step HB50.out hb)
          replace HB57 := Aside0.mk (below_step HB57.out hb)
          replace HB64 := Aside0.mk (below_step HB64.out hb)
          replace HB74 := Aside0.mk (below_step HB74.out hb)
          clear hb
          refine hK.out _ _ ⟨(blk_cell (blk_below BK8_41.out HB43.out) 0).trans rfl, (blk_cell (blk_below BK8_41.out HB43.out) 1).trans rfl, (blk_cell (blk_below BK8_41.out HB43.out) 2).trans rfl, (blk_cell (blk_below BK11_55.out HB57.out) 0).trans rfl, (blk_cell (blk_below BK11_55.out HB57.out) 1).trans rfl, (blk_cell (blk_below BK11_55.out HB57.out) 2).trans rfl, (blk_cell (blk_below BK13_62.out HB64.out) 0).trans rfl, (blk_cell (blk_below BK13_62.out HB64.out) 1).trans rfl, (blk_cell (blk_below BK13_62.out HB64.out) 2).trans rfl, (blk_cell (blk_below BK15_69.out HB74.out) 0).trans rfl, (blk_cell (blk_below BK15_69.out HB74.out) 1).trans rfl, (blk_cell (blk_below BK15_69.out HB74.out) 2).trans rfl, (blk_cell (blk_below BK16_71.out HB74.out) 0).trans rfl, (blk_cell (blk_below BK16_71.out HB74.out) 1).trans rfl, (blk_cell (blk_below BK16_71.out HB74.out) 2).trans rfl⟩ (fun hHeld => ?_)
          clear hK K
          refine norm_ (a' := ?_) ?_ ?_
          rotate_left
          · show Act.put _ (some 142) _ = _
            simp only [Act.put, List.setIfInBounds_toArray, List.set_cons_zero, List.set_cons_succ, i64_w, i32_w]
            rfl
          refine pure_ (i := 27) (N := some 143) (v := ?_) (a' := ?_) #[true, true, true, true, true, true, true, true, true, true, true, true, true, true, true, true, true, true, true, true, true, true, true, true, true, true, true, true, false, false, false, false, false, false, false, false, false, false, false] rfl rfl (any_of HT_.out (by kernel_rfl)) (fun _ _ _ h => h) (Or.inl ⟨by rfl, ?_⟩) ?_ ?_
          rotate_left
          · intro w'
            go_simp
            with_reducible rfl
          rotate_left
          · simp only [Act.put, List.setIfInBounds_toArray, List.set_cons_zero, List.set_cons_succ, i64_w, i32_w]
            rfl
          refine pure_ (i := 28) (N := some 144) (v := ?_) (a' := ?_) #[true, true, true, true, true, true, true, true, true, true, true, true, true, true, true, true, true, true, true, true, true, true, true, true, true, true, true, true, true, false, false, false, false, false, false, false, false, false, false] rfl rfl (any_of HT_.out (by kernel_rfl)) (fun _ _ _ h => h) (Or.inl ⟨by rfl, ?_⟩) ?_ ?_
          rotate_left
          · intro w'
            go_simp
            with_reducible rfl
          rotate_left
          · simp only [Act.put, List.setIfInBounds_toArray, List.set_cons_zero, List.set_cons_succ, i64_w, i32_w]
            rfl
          refine pure_ (i := 29) (N := some 145) (v := undef) (a' := ?_) #[true, true, true, true, true, true, true, true, true, true, true, true, true, true, true, true, true, true, true, true, true, true, true, true, true, true, true, true, true, true, false, false, false, false, false, false, false, false, false] rfl rfl (any_of HT_.out (by kernel_rfl)) (fun _ _ _ h => h) (Or.inr ⟨by rfl, rfl⟩) ?_ ?_
          rotate_left
          · simp only [Act.put, List.setIfInBounds_toArray, List.set_cons_zero, List.set_cons_succ, i64_w, i32_w]
            rfl
          refine pure_ (i := 30) (N := some 146) (v := undef) (a' := ?_) #[true, true, true, true, true, true, true, true, true, true, true, true, true, true, true, true, true, true, true, true, true, true, true, true, true, true, true, true, true, true, true, false, false, false, false, false, false, false, false] rfl rfl (any_of HT_.out (by kernel_rfl)) (fun _ _ _ h => h) (Or.inr ⟨by rfl, rfl⟩) ?_ ?_
          rotate_left
          · simp only [Act.put, List.setIfInBounds_toArray, List.set_cons_zero, List.set_cons_succ, i64_w, i32_w]
            rfl
          refine pure_ (i := 31) (N := some 147) (v := undef) (a' := ?_) #[true, true, true, true, true, true, true, true, true, true, true, true, true, true, true, true, true, true, true, true, true, true, true, true, true, true, true, true, true, true, true, true, false, false, false, false, false, false, false] rfl rfl (any_of HT_.out (by kernel_rfl)) (fun _ _ _ h => h) (Or.inr ⟨by rfl, rfl⟩) ?_ ?_
          rotate_left
          · simp only [Act.put, List.setIfInBounds_toArray, List.set_cons_zero, List.set_cons_succ, i64_w, i32_w]
            rfl
          refine pure_ (i := 32) (N := some 148) (v := undef) (a' := ?_) #[true, true, true, true, true, true, true, true, true, true, true, true, true, true, true, true, true, true, true, true, true, true, true, true, true, true, true, true, true, true, true, true, true, false, false, false, false, false, false] rfl rfl (any_of HT_.out (by kernel_rfl)) (fun _ _ _ h => h) (Or.inr ⟨by rfl, rfl⟩) ?_ ?_
          rotate_left
          · simp only [Act.put, List.setIfInBounds_toArray, List.set_cons_zero, List.set_cons_succ, i64_w, i32_w]
            rfl
          refine pure_ (i := 33) (N := some 149) (v := undef) (a' := ?_) #[true, true, true, true, true, true, true, true, true, true, true, true, true, true, true, true, true, true, true, true, true, true, true, true, true, true, true, true, true, true, true, true, true, true, false, false, false, false, false] rfl rfl (any_of HT_.out (by kernel_rfl)) (fun _ _ _ h => h) (Or.inr ⟨by rfl, rfl⟩) ?_ ?_
          rotate_left
          · simp only [Act.put, List.setIfInBounds_toArray, List.set_cons_zero, List.set_cons_succ, i64_w, i32_w]
            rfl
          refine pure_ (i := 34) (N := some 150) (v := undef) (a' := ?_) #[true, true, true, true, true, true, true, true, true, true, true, true, true, true, true, true, true, true, true, true, true, true, true, true, true, true, true, true, true, true, true, true, true, true, true, false, false, false, false] rfl rfl (any_of HT_.out (by kernel_rfl)) (fun _ _ _ h => h) (Or.inr ⟨by rfl, rfl⟩) ?_ ?_
          rotate_left
          · simp only [Act.put, List.setIfInBounds_toArray, List.set_cons_zero, List.set_cons_succ, i64_w, i32_w]
            rfl
          refine pure_ (i := 35) (N := some 151) (v := undef) (a' := ?_) #[true, true, true, true, true, true, true, true, true, true, true, true, true, true, true, true, true, true, true, true, true, true, true, true, true, true, true, true, true, true, true, true, true, true, true, true, false, false, false] rfl rfl (any_of HT_.out (by kernel_rfl)) (fun _ _ _ h => h) (Or.inr ⟨by rfl, rfl⟩) ?_ ?_
          rotate_left
          · simp only [Act.put, List.setIfInBounds_toArray, List.set_cons_zero, List.set_cons_succ, i64_w, i32_w]
            rfl
          refine pure_ (i := 36) (N := some 152) (v := ?_) (a' := ?_) #[true, true, true, true, true, true, true, true, true, true, true, true, true, true, true, true, true, true, true, true, true, true, true, true, true, true, true, true, true, true, true, true, true, true, true, true, true, false, false] rfl rfl (any_of HT_.out (by kernel_rfl)) (fun _ _ _ h => h) (Or.inl ⟨by rfl, ?_⟩) ?_ ?_
          rotate_left
          · intro w'
            go_simp
            with_reducible rfl
          rotate_left
          · simp only [Act.put, List.setIfInBounds_toArray, List.set_cons_zero, List.set_cons_succ, i64_w, i32_w]
            rfl
          refine pure_ (i := 37) (N := some 153) (v := ?_) (a' := ?_) #[true, true, true, true, true, true, true, true, true, true, true, true, true, true, true, true, true, true, true, true, true, true, true, true, true, true, true, true, true, true, true, true, true, true, true, true, true, true, false] rfl rfl (any_of HT_.out (by kernel_rfl)) (fun _ _ _ h => h) (Or.inl ⟨by rfl, ?_⟩) ?_ ?_
          rotate_left
          · intro w'
            go_simp
            with_reducible rfl
          rotate_left
          · simp only [Act.put, List.setIfInBounds_toArray, List.set_cons_zero, List.set_cons_succ, i64_w, i32_w]
            rfl
          refine pure_ (i := 38) (N := some 2) (v := ?_) (a' := ?_) #[true, true, true, true, true, true, true, true, true, true, true, true, true, true, true, true, true, true, true, true, true, true, true, true, true, true, true, true, true, true, true, true, true, true, true, true, true, true, true] rfl rfl (any_of HT_.out (by kernel_rfl)) (fun _ _ _ h => h) (Or.inl ⟨by rfl, ?_⟩) ?_ ?_
          rotate_left
          · intro w'
            go_simp
            with_reducible rfl
          rotate_left
          · simp only [Act.put, List.setIfInBounds_toArray, List.set_cons_zero, List.set_cons_succ, i64_w, i32_w]
            rfl
          refine done_ (done_of HT_.out (by kernel_rfl)) ?_
          clear hHeld HT_ HW_
          try go_wp2
          go_ret
          exact ⟨rfl, HB0.out⟩
set_option maxHeartbeats 8000000 in
set_option maxRecDepth 100000 in
theorem FnTypes_stop (l0 : List Int) 
    (p0 : Aside0 (laws_big.f l0 = some true))
    (W : World) {Al0 : Option Addr} {cl0 : Nat} (HRl0 : Kd.C (Kd.int .u8) W Al0 l0.length l0) (HCl0 : l0.length ≤ cl0) :
    Calls Try.prog 3 #[.slice Al0 l0.length cl0] W fun e w' => e = .returned (.bool true) ∧ Below W.heap.size W w' := by
  replace HRl0 := Aside0.mk HRl0
  replace HCl0 := Aside0.mk HCl0
  have HB0 := Aside0.mk (Below.refl W.heap.size W)
  go_enter Try.func3, Try.ntmps3
  go_wp2_with (first
    | ((with_reducible refine gate_callee (f := 4) rfl ?_)
       refine goesL_ (some 18) rfl rfl Try.func4 (by kernel_rfl) rfl #[.slice Al0 l0.length cl0] rfl (by (try simp only [List.map_toArray, List.map_cons, List.map_nil]); first | done | rfl | (simp only [List.length_drop, List.length_take]; rfl)) ?_
       (with_reducible refine (laws_big.calls _ _ l0 true _ (Kd.C_below HRl0.out HB0.out) HCl0.out p0.out).mono ?_)
       rintro e w2 ⟨rfl, hb⟩
       refine ⟨_, rfl, ?_⟩
       replace hb := Drawn0.below hb
       replace HB0 := Aside0.mk (below_step HB0.out hb)
       clear hb))
  go_ret
  exact ⟨rfl, HB0.out⟩
end Go.Proofs.Ytaakdfbfgabdbaa.Pt
