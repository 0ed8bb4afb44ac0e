/- The walk of the law FnExactIsClosed: what it does, by what its functions come to. -/
import Derived.Test.YtfidfpmgoaainaaZIsClosedWLastM
import Derived.Test.YtfidfpmgoaainaaZIsClosedPx1M
import Derived.Test.YtfidfpmgoaainaaZIsClosedPx4
import Derived.Test.YtfidfpmgoaainaaZIsClosedPx5
import Derived.Test.YtfidfpmgoaainaaZIsClosedPx8M
import Derived.Test.YtfidfpmgoaainaaZIsClosedPxFTypeM
import Derived.Test.YtfidfpmgoaainaaZIsClosedWWords
import Derived.Deep.Slices
import Derived.ChangeArms
import Derived.DataReads
section
namespace Go.Proofs.Ytfidfpmgoaainaa.Px
open Go.RowKit Go.Proofs.YtfidfpmgoaainaaW.PrintWords Go.Proofs.YtfidfpmgoaainaaW.PrintLast Go.Proofs.YtfidfpmgoaainaaW.PrintMore Go.Proofs.Ytfidfpmgoaainaa.Pl Go.Proofs.Ytfidfpmgoaainaa.Ext
set_option linter.unusedVariables false
set_option linter.unusedSimpArgs false
def laws_FnExactIsClosed.T10 : Bool × List (List Nat × List Nat) := (true, [([], []), ([], []), ([1], [1]), ([0, 2, 2], [0, 2]), ([3], [3])])
def laws_FnExactIsClosed.B10 : List Nat := [0, 0, 2, 7, 15]
theorem laws_FnExactIsClosed.tab10 : rtab .any (opsOf Try.f3 10) = laws_FnExactIsClosed.T10 := by kernel_rfl
theorem laws_FnExactIsClosed.bits10 : waitsOk laws_FnExactIsClosed.T10.2 laws_FnExactIsClosed.B10 = true := by kernel_rfl
set_option maxHeartbeats 8000000 in
set_option maxRecDepth 100000 in
theorem FnExactIsClosed_walk (x0 : S28) {left t0 t2 t3 : Int} {t1 : ByteArray} {t4 t6 : List ByteArray} {t5 : List S33} {t7 : List S36} {vC : Bool} (hl : decide (left < 0) = false)
    (p0 : ∃ k, laws_szTerm.f k x0.f0 x0.f1 x0.f2 x0.f3.f0 x0.f3.f1 x0.f3.f2 x0.f4 x0.f5 1048576 = some left)
    (p1 : ∃ k, laws_toTerm.f k x0.f0 x0.f1 x0.f2 x0.f3.f0 x0.f3.f1 x0.f3.f2 x0.f4 x0.f5 = some (t0, t1, t2, t3, t4, t5, t6, t7))
    (p2 : ∃ k, spec_IsClosed.f k t0 t1 t2 t3 t4 t5 t6 t7 = some vC)
    (p3 : ∃ k, impl_IsClosed.f k t0 t1 t2 t3 t4 t5 t6 t7 = some vC)
    (p4 : ∃ k, laws_eqTerm.f k t0 t1 t2 t3 t4 t5 t6 t7 t0 t1 t2 t3 t4 t5 t6 t7 = some true)
    (W : World) {Ax0_4 : Option Addr} {cx0_4 : Nat} (HRx0_4 : Kd.C Kd.string W Ax0_4 x0.f3.f1.length x0.f3.f1) (HCx0_4 : x0.f3.f1.length ≤ cx0_4) {Ax0_5 : Option Addr} {cx0_5 : Nat} (HRx0_5 : Kd.C k25 W Ax0_5 x0.f3.f2.length x0.f3.f2) (HCx0_5 : x0.f3.f2.length ≤ cx0_5) {Ax0_6 : Option Addr} {cx0_6 : Nat} (HRx0_6 : Kd.C Kd.string W Ax0_6 x0.f4.length x0.f4) (HCx0_6 : x0.f4.length ≤ cx0_6) {Ax0_7 : Option Addr} {cx0_7 : Nat} (HRx0_7 : Kd.C k28 W Ax0_7 x0.f5.length x0.f5) (HCx0_7 : x0.f5.length ≤ cx0_7) :
    Calls Try.prog 3 #[.agg #[.int .i64 x0.f0, .string x0.f1, .int .i64 x0.f2, .int .i64 x0.f3.f0, .slice Ax0_4 x0.f3.f1.length cx0_4, .slice Ax0_5 x0.f3.f2.length cx0_5, .slice Ax0_6 x0.f4.length cx0_6, .slice Ax0_7 x0.f5.length cx0_7]] W fun e w' => e = .returned (.bool true) ∧ Below W.heap.size W w' := by
  replace HRx0_4 := Aside0.mk HRx0_4
  replace HCx0_4 := Aside0.mk HCx0_4
  replace HRx0_5 := Aside0.mk HRx0_5
  replace HCx0_5 := Aside0.mk HCx0_5
  replace HRx0_6 := Aside0.mk HRx0_6
  replace HCx0_6 := Aside0.mk HCx0_6
  replace HRx0_7 := Aside0.mk HRx0_7
  replace HCx0_7 := Aside0.mk HCx0_7
  have HB0 := Aside0.mk (Below.refl W.heap.size W)
  go_enter Try.func3, Try.ntmps3
  go_upto_region 10 with (first
    | ((with_reducible refine gate_dst (N := 1) rfl ?_)
       refine box_event ?hg (N := 1) ?hd (cs := #[.int .i64 x0.f0, .string x0.f1, .int .i64 x0.f2, .int .i64 x0.f3.f0, .slice Ax0_4 x0.f3.f1.length cx0_4, .slice Ax0_5 x0.f3.f2.length cx0_5, .slice Ax0_6 x0.f4.length cx0_6, .slice Ax0_7 x0.f5.length cx0_7]) (t := 28) ?hr ?_; (case hd => rfl); (case hg => rfl); (case hr => first | (go_simp; done) | (go_simp; rfl))
       intro gb1_2 hg w1 hbox hb
       replace HB0 := Aside0.mk (below_step HB0.out hb)
       have HB3 := Aside0.mk (Below.refl w1.heap.size w1)
       have BK1_2 := Aside0.mk hbox
       clear hbox hg hb
       have hx1_0 : w1.cell? ⟨gb1_2, 0, none⟩ = some (.int .i64 x0.f0) := (blk_cell (blk_below BK1_2.out HB3.out) 0).trans rfl
       have hx1_1 : w1.cell? ⟨gb1_2, 1, none⟩ = some (.string x0.f1) := (blk_cell (blk_below BK1_2.out HB3.out) 1).trans rfl
       have hx1_2 : w1.cell? ⟨gb1_2, 2, none⟩ = some (.int .i64 x0.f2) := (blk_cell (blk_below BK1_2.out HB3.out) 2).trans rfl
       have hx1_3 : w1.cell? ⟨gb1_2, 3, none⟩ = some (.int .i64 x0.f3.f0) := (blk_cell (blk_below BK1_2.out HB3.out) 3).trans rfl
       have hx1_4 : w1.cell? ⟨gb1_2, 4, none⟩ = some (.slice Ax0_4 x0.f3.f1.length cx0_4) := (blk_cell (blk_below BK1_2.out HB3.out) 4).trans rfl
       have hx1_5 : w1.cell? ⟨gb1_2, 5, none⟩ = some (.slice Ax0_5 x0.f3.f2.length cx0_5) := (blk_cell (blk_below BK1_2.out HB3.out) 5).trans rfl
       have hx1_6 : w1.cell? ⟨gb1_2, 6, none⟩ = some (.slice Ax0_6 x0.f4.length cx0_6) := (blk_cell (blk_below BK1_2.out HB3.out) 6).trans rfl
       have hx1_7 : w1.cell? ⟨gb1_2, 7, none⟩ = some (.slice Ax0_7 x0.f5.length cx0_7) := (blk_cell (blk_below BK1_2.out HB3.out) 7).trans rfl)
    | ((with_reducible refine gate_callee (f := 7) rfl ?_)
       refine goesL_ (some 9) rfl rfl Try.func7 (by kernel_rfl) rfl #[.agg #[.int .i64 x0.f0, .string x0.f1, .int .i64 x0.f2, .int .i64 x0.f3.f0, .slice Ax0_4 x0.f3.f1.length cx0_4, .slice Ax0_5 x0.f3.f2.length cx0_5, .slice Ax0_6 x0.f4.length cx0_6, .slice Ax0_7 x0.f5.length cx0_7], .int .i64 1048576] rfl (by (try simp only [List.map_toArray, List.map_cons, List.map_nil]); first | done | rfl | (simp only [List.length_drop, List.length_take]; rfl)) ?_
       have hh := p0
       obtain ⟨k4, e4⟩ := hh
       (with_reducible refine (laws_szTerm.calls k4 x0.f0 x0.f1 x0.f2 x0.f3.f0 _ _ x0.f3.f1 _ _ x0.f3.f2 _ _ x0.f4 _ _ x0.f5 1048576 left _ (Kd.C_below HRx0_4.out HB0.out) HCx0_4.out (Kd.C_below HRx0_5.out HB0.out) HCx0_5.out (Kd.C_below HRx0_6.out HB0.out) HCx0_6.out (Kd.C_below HRx0_7.out HB0.out) HCx0_7.out e4).mono ?_)
       rintro e w5 ⟨rfl, hb⟩
       refine ⟨_, rfl, ?_⟩
       clear e4
       clear hx1_0 hx1_1 hx1_2 hx1_3 hx1_4 hx1_5 hx1_6 hx1_7
       replace HB0 := Aside0.mk (below_step HB0.out hb)
       replace HB3 := Aside0.mk (below_step HB3.out hb)
       clear hb
       have hx1_0 : w5.cell? ⟨gb1_2, 0, none⟩ = some (.int .i64 x0.f0) := (blk_cell (blk_below BK1_2.out HB3.out) 0).trans rfl
       have hx1_1 : w5.cell? ⟨gb1_2, 1, none⟩ = some (.string x0.f1) := (blk_cell (blk_below BK1_2.out HB3.out) 1).trans rfl
       have hx1_2 : w5.cell? ⟨gb1_2, 2, none⟩ = some (.int .i64 x0.f2) := (blk_cell (blk_below BK1_2.out HB3.out) 2).trans rfl
       have hx1_3 : w5.cell? ⟨gb1_2, 3, none⟩ = some (.int .i64 x0.f3.f0) := (blk_cell (blk_below BK1_2.out HB3.out) 3).trans rfl
       have hx1_4 : w5.cell? ⟨gb1_2, 4, none⟩ = some (.slice Ax0_4 x0.f3.f1.length cx0_4) := (blk_cell (blk_below BK1_2.out HB3.out) 4).trans rfl
       have hx1_5 : w5.cell? ⟨gb1_2, 5, none⟩ = some (.slice Ax0_5 x0.f3.f2.length cx0_5) := (blk_cell (blk_below BK1_2.out HB3.out) 5).trans rfl
       have hx1_6 : w5.cell? ⟨gb1_2, 6, none⟩ = some (.slice Ax0_6 x0.f4.length cx0_6) := (blk_cell (blk_below BK1_2.out HB3.out) 6).trans rfl
       have hx1_7 : w5.cell? ⟨gb1_2, 7, none⟩ = some (.slice Ax0_7 x0.f5.length cx0_7) := (blk_cell (blk_below BK1_2.out HB3.out) 7).trans rfl)
    | ((with_reducible refine gate_callee (f := 9) rfl ?_)
       refine goesL_ (some 13) rfl rfl Try.func9 (by kernel_rfl) rfl #[.agg #[.int .i64 x0.f0, .string x0.f1, .int .i64 x0.f2, .int .i64 x0.f3.f0, .slice Ax0_4 x0.f3.f1.length cx0_4, .slice Ax0_5 x0.f3.f2.length cx0_5, .slice Ax0_6 x0.f4.length cx0_6, .slice Ax0_7 x0.f5.length cx0_7]] rfl (by (try simp only [List.map_toArray, List.map_cons, List.map_nil]); first | done | rfl | (simp only [List.length_drop, List.length_take]; rfl)) ?_
       have hh := p1
       obtain ⟨k6, e6⟩ := hh
       (with_reducible refine (laws_toTerm.calls k6 x0.f0 x0.f1 x0.f2 x0.f3.f0 _ _ x0.f3.f1 _ _ x0.f3.f2 _ _ x0.f4 _ _ x0.f5 t0 t1 t2 t3 t4 t5 t6 t7 _ (Kd.C_below HRx0_4.out HB0.out) HCx0_4.out (Kd.C_below HRx0_5.out HB0.out) HCx0_5.out (Kd.C_below HRx0_6.out HB0.out) HCx0_6.out (Kd.C_below HRx0_7.out HB0.out) HCx0_7.out e6).mono ?_)
       rintro e w7 ⟨v6_0, v6_1, v6_2, v6_3, rfl, ho6_0, ho6_1, ho6_2, ho6_3, hb⟩
       refine ⟨_, rfl, ?_⟩
       clear e6
       clear hx1_0 hx1_1 hx1_2 hx1_3 hx1_4 hx1_5 hx1_6 hx1_7
       replace HB0 := Aside0.mk (below_step HB0.out hb)
       replace HB3 := Aside0.mk (below_step HB3.out hb)
       clear hb
       have HB8 := Aside0.mk (Below.refl w7.heap.size w7)
       obtain ⟨A6_0, c6_0, ev_⟩ := Kd.R_slice ho6_0
       subst ev_
       have HR6_0 := Aside0.mk (Kd.R_reads' ho6_0).2.2
       have HC6_0 := Aside0.mk (Kd.R_reads' ho6_0).2.1
       clear ho6_0
       obtain ⟨A6_1, c6_1, ev_⟩ := Kd.R_slice ho6_1
       subst ev_
       have HR6_1 := Aside0.mk (Kd.R_reads' ho6_1).2.2
       have HC6_1 := Aside0.mk (Kd.R_reads' ho6_1).2.1
       clear ho6_1
       obtain ⟨A6_2, c6_2, ev_⟩ := Kd.R_slice ho6_2
       subst ev_
       have HR6_2 := Aside0.mk (Kd.R_reads' ho6_2).2.2
       have HC6_2 := Aside0.mk (Kd.R_reads' ho6_2).2.1
       clear ho6_2
       obtain ⟨A6_3, c6_3, ev_⟩ := Kd.R_slice ho6_3
       subst ev_
       have HR6_3 := Aside0.mk (Kd.R_reads' ho6_3).2.2
       have HC6_3 := Aside0.mk (Kd.R_reads' ho6_3).2.1
       clear ho6_3)
    | ((with_reducible refine gate_callee (f := 8) rfl ?_)
       refine goesL_ (some 14) rfl rfl Try.func8 (by kernel_rfl) rfl #[.agg #[.int .i64 t0, .string t1, .int .i64 t2, .int .i64 t3, .slice A6_0 t4.length c6_0, .slice A6_1 t5.length c6_1, .slice A6_2 t6.length c6_2, .slice A6_3 t7.length c6_3]] rfl (by (try simp only [List.map_toArray, List.map_cons, List.map_nil]); first | done | rfl | (simp only [List.length_drop, List.length_take]; rfl)) ?_
       have hh := p2
       obtain ⟨k9, e9⟩ := hh
       (with_reducible refine (spec_IsClosed.calls k9 t0 t1 t2 t3 _ _ t4 _ _ t5 _ _ t6 _ _ t7 vC _ (Kd.C_below HR6_0.out HB8.out) HC6_0.out (Kd.C_below HR6_1.out HB8.out) HC6_1.out (Kd.C_below HR6_2.out HB8.out) HC6_2.out (Kd.C_below HR6_3.out HB8.out) HC6_3.out e9).mono ?_)
       rintro e w10 ⟨rfl, hb⟩
       refine ⟨_, rfl, ?_⟩
       clear e9
       replace HB0 := Aside0.mk (below_step HB0.out hb)
       replace HB3 := Aside0.mk (below_step HB3.out hb)
       replace HB8 := Aside0.mk (below_step HB8.out hb)
       clear hb
       have hx1_0 : w10.cell? ⟨gb1_2, 0, none⟩ = some (.int .i64 x0.f0) := (blk_cell (blk_below BK1_2.out HB3.out) 0).trans rfl
       have hx1_1 : w10.cell? ⟨gb1_2, 1, none⟩ = some (.string x0.f1) := (blk_cell (blk_below BK1_2.out HB3.out) 1).trans rfl
       have hx1_2 : w10.cell? ⟨gb1_2, 2, none⟩ = some (.int .i64 x0.f2) := (blk_cell (blk_below BK1_2.out HB3.out) 2).trans rfl
       have hx1_3 : w10.cell? ⟨gb1_2, 3, none⟩ = some (.int .i64 x0.f3.f0) := (blk_cell (blk_below BK1_2.out HB3.out) 3).trans rfl
       have hx1_4 : w10.cell? ⟨gb1_2, 4, none⟩ = some (.slice Ax0_4 x0.f3.f1.length cx0_4) := (blk_cell (blk_below BK1_2.out HB3.out) 4).trans rfl
       have hx1_5 : w10.cell? ⟨gb1_2, 5, none⟩ = some (.slice Ax0_5 x0.f3.f2.length cx0_5) := (blk_cell (blk_below BK1_2.out HB3.out) 5).trans rfl
       have hx1_6 : w10.cell? ⟨gb1_2, 6, none⟩ = some (.slice Ax0_6 x0.f4.length cx0_6) := (blk_cell (blk_below BK1_2.out HB3.out) 6).trans rfl
       have hx1_7 : w10.cell? ⟨gb1_2, 7, none⟩ = some (.slice Ax0_7 x0.f5.length cx0_7) := (blk_cell (blk_below BK1_2.out HB3.out) 7).trans rfl)
    | ((with_reducible refine gate_callee (f := 9) rfl ?_)
       refine goesL_ (some 16) rfl rfl Try.func9 (by kernel_rfl) rfl #[.agg #[.int .i64 x0.f0, .string x0.f1, .int .i64 x0.f2, .int .i64 x0.f3.f0, .slice Ax0_4 x0.f3.f1.length cx0_4, .slice Ax0_5 x0.f3.f2.length cx0_5, .slice Ax0_6 x0.f4.length cx0_6, .slice Ax0_7 x0.f5.length cx0_7]] rfl (by (try simp only [List.map_toArray, List.map_cons, List.map_nil]); first | done | rfl | (simp only [List.length_drop, List.length_take]; rfl)) ?_
       have hh := p1
       obtain ⟨k11, e11⟩ := hh
       (with_reducible refine (laws_toTerm.calls k11 x0.f0 x0.f1 x0.f2 x0.f3.f0 _ _ x0.f3.f1 _ _ x0.f3.f2 _ _ x0.f4 _ _ x0.f5 t0 t1 t2 t3 t4 t5 t6 t7 _ (Kd.C_below HRx0_4.out HB0.out) HCx0_4.out (Kd.C_below HRx0_5.out HB0.out) HCx0_5.out (Kd.C_below HRx0_6.out HB0.out) HCx0_6.out (Kd.C_below HRx0_7.out HB0.out) HCx0_7.out e11).mono ?_)
       rintro e w12 ⟨v11_0, v11_1, v11_2, v11_3, rfl, ho11_0, ho11_1, ho11_2, ho11_3, hb⟩
       refine ⟨_, rfl, ?_⟩
       clear e11
       clear hx1_0 hx1_1 hx1_2 hx1_3 hx1_4 hx1_5 hx1_6 hx1_7
       replace HB0 := Aside0.mk (below_step HB0.out hb)
       replace HB3 := Aside0.mk (below_step HB3.out hb)
       replace HB8 := Aside0.mk (below_step HB8.out hb)
       clear hb
       have HB13 := Aside0.mk (Below.refl w12.heap.size w12)
       obtain ⟨A11_0, c11_0, ev_⟩ := Kd.R_slice ho11_0
       subst ev_
       have HR11_0 := Aside0.mk (Kd.R_reads' ho11_0).2.2
       have HC11_0 := Aside0.mk (Kd.R_reads' ho11_0).2.1
       clear ho11_0
       obtain ⟨A11_1, c11_1, ev_⟩ := Kd.R_slice ho11_1
       subst ev_
       have HR11_1 := Aside0.mk (Kd.R_reads' ho11_1).2.2
       have HC11_1 := Aside0.mk (Kd.R_reads' ho11_1).2.1
       clear ho11_1
       obtain ⟨A11_2, c11_2, ev_⟩ := Kd.R_slice ho11_2
       subst ev_
       have HR11_2 := Aside0.mk (Kd.R_reads' ho11_2).2.2
       have HC11_2 := Aside0.mk (Kd.R_reads' ho11_2).2.1
       clear ho11_2
       obtain ⟨A11_3, c11_3, ev_⟩ := Kd.R_slice ho11_3
       subst ev_
       have HR11_3 := Aside0.mk (Kd.R_reads' ho11_3).2.2
       have HC11_3 := Aside0.mk (Kd.R_reads' ho11_3).2.1
       clear ho11_3)
    | ((with_reducible refine gate_dst (N := 5) rfl ?_)
       refine box_event ?hg (N := 5) ?hd (cs := #[.int .i64 0, .string ⟨#[]⟩, .int .i64 0, .int .i64 0, .slice none 0 0, .slice none 0 0, .slice none 0 0, .slice none 0 0]) (t := 36) ?hr ?_; (case hd => rfl); (case hg => rfl); (case hr => first | (go_simp; done) | (go_simp; rfl))
       intro gb5_15 hg w14 hbox hbA
       have HBA := Aside0.mk hbA
       have HGgb5_15 := Aside0.mk (show w12.heap.size ≤ gb5_15 by rw [hg]; exact Nat.le_refl _)
       have HXgb5_15 := Aside0.mk hbox
       clear hbA hg hbox
       have hx5_0 : w14.cell? ⟨gb5_15, 0, none⟩ = some (.int .i64 0) := (blk_cell HXgb5_15.out 0).trans rfl
       have hx5_1 : w14.cell? ⟨gb5_15, 1, none⟩ = some (.string ⟨#[]⟩) := (blk_cell HXgb5_15.out 1).trans rfl
       have hx5_2 : w14.cell? ⟨gb5_15, 2, none⟩ = some (.int .i64 0) := (blk_cell HXgb5_15.out 2).trans rfl
       have hx5_3 : w14.cell? ⟨gb5_15, 3, none⟩ = some (.int .i64 0) := (blk_cell HXgb5_15.out 3).trans rfl
       have hx5_4 : w14.cell? ⟨gb5_15, 4, none⟩ = some (.slice none 0 0) := (blk_cell HXgb5_15.out 4).trans rfl
       have hx5_5 : w14.cell? ⟨gb5_15, 5, none⟩ = some (.slice none 0 0) := (blk_cell HXgb5_15.out 5).trans rfl
       have hx5_6 : w14.cell? ⟨gb5_15, 6, none⟩ = some (.slice none 0 0) := (blk_cell HXgb5_15.out 6).trans rfl
       have hx5_7 : w14.cell? ⟨gb5_15, 7, none⟩ = some (.slice none 0 0) := (blk_cell HXgb5_15.out 7).trans rfl
       have hf5_0 := blk_frozen HXgb5_15.out 0
       have hf5_1 := blk_frozen HXgb5_15.out 1
       have hf5_2 := blk_frozen HXgb5_15.out 2
       have hf5_3 := blk_frozen HXgb5_15.out 3
       have hf5_4 := blk_frozen HXgb5_15.out 4
       have hf5_5 := blk_frozen HXgb5_15.out 5
       have hf5_6 := blk_frozen HXgb5_15.out 6
       have hf5_7 := blk_frozen HXgb5_15.out 7)
    | ((with_reducible refine gate_store (t := 36) (p := 5) rfl ?_)
       refine store_event (t := 36) (p := 5) (v := ?vo_w16) (w1 := ((((((((w14.setCell ⟨gb5_15, 0, none⟩ (.int .i64 t0)).setCell ⟨gb5_15, 1, none⟩ (.string t1)).setCell ⟨gb5_15, 2, none⟩ (.int .i64 t2)).setCell ⟨gb5_15, 3, none⟩ (.int .i64 t3)).setCell ⟨gb5_15, 4, none⟩ (.slice A11_0 t4.length c11_0)).setCell ⟨gb5_15, 5, none⟩ (.slice A11_1 t5.length c11_1)).setCell ⟨gb5_15, 6, none⟩ (.slice A11_2 t6.length c11_2)).setCell ⟨gb5_15, 7, none⟩ (.slice A11_3 t7.length c11_3))) ?hg ?ho ?hn ?hr ?_; (case ho => rfl); (case hg => rfl); (case hn => rfl); (case hr => first | (go_simp; done) | (go_simp; rfl)); intro w16 hw
       replace HBA := Aside0.mk (show Below w12.heap.size w12 w16 by rw [hw]; exact below_set (below_set (below_set (below_set (below_set (below_set (below_set (below_set (HBA.out) HGgb5_15.out) HGgb5_15.out) HGgb5_15.out) HGgb5_15.out) HGgb5_15.out) HGgb5_15.out) HGgb5_15.out) HGgb5_15.out)
       replace HXgb5_15 := Aside0.mk (show w16.heap[gb5_15]? = some (.cells #[.int .i64 t0, .string t1, .int .i64 t2, .int .i64 t3, .slice A11_0 t4.length c11_0, .slice A11_1 t5.length c11_1, .slice A11_2 t6.length c11_2, .slice A11_3 t7.length c11_3] 36 (0, 0)) by rw [hw]; exact blk_put (cs := #[.int .i64 t0, .string t1, .int .i64 t2, .int .i64 t3, .slice A11_0 t4.length c11_0, .slice A11_1 t5.length c11_1, .slice A11_2 t6.length c11_2, .slice none 0 0]) (blk_put (cs := #[.int .i64 t0, .string t1, .int .i64 t2, .int .i64 t3, .slice A11_0 t4.length c11_0, .slice A11_1 t5.length c11_1, .slice none 0 0, .slice none 0 0]) (blk_put (cs := #[.int .i64 t0, .string t1, .int .i64 t2, .int .i64 t3, .slice A11_0 t4.length c11_0, .slice none 0 0, .slice none 0 0, .slice none 0 0]) (blk_put (cs := #[.int .i64 t0, .string t1, .int .i64 t2, .int .i64 t3, .slice none 0 0, .slice none 0 0, .slice none 0 0, .slice none 0 0]) (blk_put (cs := #[.int .i64 t0, .string t1, .int .i64 t2, .int .i64 0, .slice none 0 0, .slice none 0 0, .slice none 0 0, .slice none 0 0]) (blk_put (cs := #[.int .i64 t0, .string t1, .int .i64 0, .int .i64 0, .slice none 0 0, .slice none 0 0, .slice none 0 0, .slice none 0 0]) (blk_put (cs := #[.int .i64 t0, .string ⟨#[]⟩, .int .i64 0, .int .i64 0, .slice none 0 0, .slice none 0 0, .slice none 0 0, .slice none 0 0]) (blk_put (cs := #[.int .i64 0, .string ⟨#[]⟩, .int .i64 0, .int .i64 0, .slice none 0 0, .slice none 0 0, .slice none 0 0, .slice none 0 0]) (HXgb5_15.out) 0 (.int .i64 t0) rfl) 1 (.string t1) rfl) 2 (.int .i64 t2) rfl) 3 (.int .i64 t3) rfl) 4 (.slice A11_0 t4.length c11_0) rfl) 5 (.slice A11_1 t5.length c11_1) rfl) 6 (.slice A11_2 t6.length c11_2) rfl) 7 (.slice A11_3 t7.length c11_3) rfl)
       clear hw hx5_0 hx5_1 hx5_2 hx5_3 hx5_4 hx5_5 hx5_6 hx5_7 hf5_0 hf5_1 hf5_2 hf5_3 hf5_4 hf5_5 hf5_6 hf5_7
       have hb := HBA.out
       replace HB0 := Aside0.mk (below_step HB0.out hb)
       replace HB3 := Aside0.mk (below_step HB3.out hb)
       replace HB8 := Aside0.mk (below_step HB8.out hb)
       replace HB13 := Aside0.mk (below_step HB13.out hb)
       have HB17 := Aside0.mk (Below.refl w16.heap.size w16)
       replace HR11_0 := Aside0.mk (Kd.C_below HR11_0.out hb)
       replace HR11_1 := Aside0.mk (Kd.C_below HR11_1.out hb)
       replace HR11_2 := Aside0.mk (Kd.C_below HR11_2.out hb)
       replace HR11_3 := Aside0.mk (Kd.C_below HR11_3.out hb)
       clear HB13
       have BK5_15 := HXgb5_15
       clear HXgb5_15 HGgb5_15
       clear HBA hb
       have hx5_0 : w16.cell? ⟨gb5_15, 0, none⟩ = some (.int .i64 t0) := (blk_cell (blk_below BK5_15.out HB17.out) 0).trans rfl
       have hx5_1 : w16.cell? ⟨gb5_15, 1, none⟩ = some (.string t1) := (blk_cell (blk_below BK5_15.out HB17.out) 1).trans rfl
       have hx5_2 : w16.cell? ⟨gb5_15, 2, none⟩ = some (.int .i64 t2) := (blk_cell (blk_below BK5_15.out HB17.out) 2).trans rfl
       have hx5_3 : w16.cell? ⟨gb5_15, 3, none⟩ = some (.int .i64 t3) := (blk_cell (blk_below BK5_15.out HB17.out) 3).trans rfl
       have hx5_4 : w16.cell? ⟨gb5_15, 4, none⟩ = some (.slice A11_0 t4.length c11_0) := (blk_cell (blk_below BK5_15.out HB17.out) 4).trans rfl
       have hx5_5 : w16.cell? ⟨gb5_15, 5, none⟩ = some (.slice A11_1 t5.length c11_1) := (blk_cell (blk_below BK5_15.out HB17.out) 5).trans rfl
       have hx5_6 : w16.cell? ⟨gb5_15, 6, none⟩ = some (.slice A11_2 t6.length c11_2) := (blk_cell (blk_below BK5_15.out HB17.out) 6).trans rfl
       have hx5_7 : w16.cell? ⟨gb5_15, 7, none⟩ = some (.slice A11_3 t7.length c11_3) := (blk_cell (blk_below BK5_15.out HB17.out) 7).trans rfl)
    | ((with_reducible refine gate_callee (f := 10) rfl ?_)
       refine goesL_ (some 18) rfl rfl Try.func10 (by kernel_rfl) rfl #[.agg #[.int .i64 t0, .string t1, .int .i64 t2, .int .i64 t3, .slice A11_0 t4.length c11_0, .slice A11_1 t5.length c11_1, .slice A11_2 t6.length c11_2, .slice A11_3 t7.length c11_3]] rfl (by (try simp only [List.map_toArray, List.map_cons, List.map_nil]); first | done | rfl | (simp only [List.length_drop, List.length_take]; rfl)) ?_
       have hh := p3
       obtain ⟨k18, e18⟩ := hh
       (with_reducible refine (impl_IsClosed.calls k18 t0 t1 t2 t3 _ _ t4 _ _ t5 _ _ t6 _ _ t7 vC _ (Kd.C_below HR11_0.out HB17.out) HC11_0.out (Kd.C_below HR11_1.out HB17.out) HC11_1.out (Kd.C_below HR11_2.out HB17.out) HC11_2.out (Kd.C_below HR11_3.out HB17.out) HC11_3.out e18).mono ?_)
       rintro e w19 ⟨rfl, hb⟩
       refine ⟨_, rfl, ?_⟩
       clear e18
       clear hx5_0 hx5_1 hx5_2 hx5_3 hx5_4 hx5_5 hx5_6 hx5_7
       replace HB0 := Aside0.mk (below_step HB0.out hb)
       replace HB3 := Aside0.mk (below_step HB3.out hb)
       replace HB8 := Aside0.mk (below_step HB8.out hb)
       replace HB17 := Aside0.mk (below_step HB17.out hb)
       clear hb))
  replace HB0 := Aside0.mk (below_drew1 HB0.out)
  replace HB3 := Aside0.mk (below_drew1 HB3.out)
  replace HB8 := Aside0.mk (below_drew1 HB8.out)
  replace HB17 := Aside0.mk (below_drew1 HB17.out)
  refine start_ (n := 5) (S := fun w' => w'.cell? ⟨gb5_15, 0, none⟩ = some (.int .i64 t0) ∧ w'.cell? ⟨gb5_15, 1, none⟩ = some (.string t1) ∧ w'.cell? ⟨gb5_15, 2, none⟩ = some (.int .i64 t2) ∧ w'.cell? ⟨gb5_15, 3, none⟩ = some (.int .i64 t3) ∧ w'.cell? ⟨gb5_15, 4, none⟩ = some (.slice A11_0 t4.length c11_0) ∧ w'.cell? ⟨gb5_15, 5, none⟩ = some (.slice A11_1 t5.length c11_1) ∧ w'.cell? ⟨gb5_15, 6, none⟩ = some (.slice A11_2 t6.length c11_2) ∧ w'.cell? ⟨gb5_15, 7, none⟩ = some (.slice A11_3 t7.length c11_3) ∧ w'.cell? ⟨gb1_2, 0, none⟩ = some (.int .i64 x0.f0) ∧ w'.cell? ⟨gb1_2, 1, none⟩ = some (.string x0.f1) ∧ w'.cell? ⟨gb1_2, 2, none⟩ = some (.int .i64 x0.f2) ∧ w'.cell? ⟨gb1_2, 3, none⟩ = some (.int .i64 x0.f3.f0) ∧ w'.cell? ⟨gb1_2, 4, none⟩ = some (.slice Ax0_4 x0.f3.f1.length cx0_4) ∧ w'.cell? ⟨gb1_2, 5, none⟩ = some (.slice Ax0_5 x0.f3.f2.length cx0_5) ∧ w'.cell? ⟨gb1_2, 6, none⟩ = some (.slice Ax0_6 x0.f4.length cx0_6) ∧ w'.cell? ⟨gb1_2, 7, none⟩ = some (.slice Ax0_7 x0.f5.length cx0_7)) (ds := []) #[false, false, false, false, false] (by kernel_rfl) rfl rfl ⟨(blk_cell (blk_below BK5_15.out HB17.out) 0).trans rfl, (blk_cell (blk_below BK5_15.out HB17.out) 1).trans rfl, (blk_cell (blk_below BK5_15.out HB17.out) 2).trans rfl, (blk_cell (blk_below BK5_15.out HB17.out) 3).trans rfl, (blk_cell (blk_below BK5_15.out HB17.out) 4).trans rfl, (blk_cell (blk_below BK5_15.out HB17.out) 5).trans rfl, (blk_cell (blk_below BK5_15.out HB17.out) 6).trans rfl, (blk_cell (blk_below BK5_15.out HB17.out) 7).trans rfl, (blk_cell (blk_below BK1_2.out HB3.out) 0).trans rfl, (blk_cell (blk_below BK1_2.out HB3.out) 1).trans rfl, (blk_cell (blk_below BK1_2.out HB3.out) 2).trans rfl, (blk_cell (blk_below BK1_2.out HB3.out) 3).trans rfl, (blk_cell (blk_below BK1_2.out HB3.out) 4).trans rfl, (blk_cell (blk_below BK1_2.out HB3.out) 5).trans rfl, (blk_cell (blk_below BK1_2.out HB3.out) 6).trans rfl, (blk_cell (blk_below BK1_2.out HB3.out) 7).trans rfl⟩ (fun hHeld => ?_); refine with_tabW laws_FnExactIsClosed.tab10 laws_FnExactIsClosed.bits10 (fun HT_ HW_ => ?_)
  generalize w19.drew = w20 at HB0 HB3 HB8 HB17 hHeld ⊢
  refine take_ (i := 0) (N := some 22) (v := ?_) (a' := ?_) #[true, false, false, false, false] rfl rfl (take_ofW HT_.out HW_.out (by kernel_rfl)) (fun _ _ _ h => h) (Or.inl ⟨by rfl, ?_⟩) hHeld ?_ ?_
  rotate_left
  · rintro w' ⟨s0, s1, s2, s3, s4, s5, s6, s7, s8, s9, s10, s11, s12, s13, s14, s15⟩
    go_simp
    with_reducible rfl
  rotate_left
  · simp only [Act.put, List.setIfInBounds_toArray, List.set_cons_zero, List.set_cons_succ, i64_w, i32_w]
    rfl
  refine take_ (i := 1) (N := some 23) (v := ?_) (a' := ?_) #[true, true, false, false, false] rfl rfl (take_ofW HT_.out HW_.out (by kernel_rfl)) (fun _ _ _ h => h) (Or.inl ⟨by rfl, ?_⟩) hHeld ?_ ?_
  rotate_left
  · rintro w' ⟨s0, s1, s2, s3, s4, s5, s6, s7, s8, s9, s10, s11, s12, s13, s14, s15⟩
    go_simp
    with_reducible rfl
  rotate_left
  · simp only [Act.put, List.setIfInBounds_toArray, List.set_cons_zero, List.set_cons_succ, i64_w, i32_w]
    rfl
  refine one_ (i := 2) (N := some 24) #[true, true, true, false, false] rfl rfl (one_of HT_.out (by kernel_rfl)) (by decide) (fun K hK => ?_)
  refine goes_ Try.func9 (by kernel_rfl) rfl #[.agg #[.int .i64 x0.f0, .string x0.f1, .int .i64 x0.f2, .int .i64 x0.f3.f0, .slice Ax0_4 x0.f3.f1.length cx0_4, .slice Ax0_5 x0.f3.f2.length cx0_5, .slice Ax0_6 x0.f4.length cx0_6, .slice Ax0_7 x0.f5.length cx0_7]] (by rfl) rfl rfl (by (try simp only [List.map_toArray, List.map_cons, List.map_nil]); first | done | rfl | (simp only [List.length_drop, List.length_take]; rfl)) ?_
  have hh := p1
  obtain ⟨k21, e21⟩ := hh
  (with_reducible refine (laws_toTerm.calls k21 x0.f0 x0.f1 x0.f2 x0.f3.f0 _ _ x0.f3.f1 _ _ x0.f3.f2 _ _ x0.f4 _ _ x0.f5 t0 t1 t2 t3 t4 t5 t6 t7 _ (Kd.C_below HRx0_4.out HB0.out) HCx0_4.out (Kd.C_below HRx0_5.out HB0.out) HCx0_5.out (Kd.C_below HRx0_6.out HB0.out) HCx0_6.out (Kd.C_below HRx0_7.out HB0.out) HCx0_7.out e21).mono ?_)
  rintro e w22 ⟨v21_0, v21_1, v21_2, v21_3, rfl, ho21_0, ho21_1, ho21_2, ho21_3, hb⟩
  refine ⟨_, rfl, ?_⟩
  clear e21
  replace HB0 := Aside0.mk (below_step HB0.out hb)
  replace HB3 := Aside0.mk (below_step HB3.out hb)
  replace HB8 := Aside0.mk (below_step HB8.out hb)
  replace HB17 := Aside0.mk (below_step HB17.out hb)
  clear hb
  have HB23 := Aside0.mk (Below.refl w22.heap.size w22)
  obtain ⟨A21_0, c21_0, ev_⟩ := Kd.R_slice ho21_0
  subst ev_
  have HR21_0 := Aside0.mk (Kd.R_reads' ho21_0).2.2
  have HC21_0 := Aside0.mk (Kd.R_reads' ho21_0).2.1
  clear ho21_0
  obtain ⟨A21_1, c21_1, ev_⟩ := Kd.R_slice ho21_1
  subst ev_
  have HR21_1 := Aside0.mk (Kd.R_reads' ho21_1).2.2
  have HC21_1 := Aside0.mk (Kd.R_reads' ho21_1).2.1
  clear ho21_1
  obtain ⟨A21_2, c21_2, ev_⟩ := Kd.R_slice ho21_2
  subst ev_
  have HR21_2 := Aside0.mk (Kd.R_reads' ho21_2).2.2
  have HC21_2 := Aside0.mk (Kd.R_reads' ho21_2).2.1
  clear ho21_2
  obtain ⟨A21_3, c21_3, ev_⟩ := Kd.R_slice ho21_3
  subst ev_
  have HR21_3 := Aside0.mk (Kd.R_reads' ho21_3).2.2
  have HC21_3 := Aside0.mk (Kd.R_reads' ho21_3).2.1
  clear ho21_3
  refine hK.out _ _ ⟨(blk_cell (blk_below BK5_15.out HB17.out) 0).trans rfl, (blk_cell (blk_below BK5_15.out HB17.out) 1).trans rfl, (blk_cell (blk_below BK5_15.out HB17.out) 2).trans rfl, (blk_cell (blk_below BK5_15.out HB17.out) 3).trans rfl, (blk_cell (blk_below BK5_15.out HB17.out) 4).trans rfl, (blk_cell (blk_below BK5_15.out HB17.out) 5).trans rfl, (blk_cell (blk_below BK5_15.out HB17.out) 6).trans rfl, (blk_cell (blk_below BK5_15.out HB17.out) 7).trans rfl, (blk_cell (blk_below BK1_2.out HB3.out) 0).trans rfl, (blk_cell (blk_below BK1_2.out HB3.out) 1).trans rfl, (blk_cell (blk_below BK1_2.out HB3.out) 2).trans rfl, (blk_cell (blk_below BK1_2.out HB3.out) 3).trans rfl, (blk_cell (blk_below BK1_2.out HB3.out) 4).trans rfl, (blk_cell (blk_below BK1_2.out HB3.out) 5).trans rfl, (blk_cell (blk_below BK1_2.out HB3.out) 6).trans rfl, (blk_cell (blk_below BK1_2.out HB3.out) 7).trans rfl⟩ (fun hHeld => ?_)
  clear hK K
  refine norm_ (a' := ?_) ?_ ?_
  rotate_left
  · show Act.put _ (some 24) _ = _
    simp only [Act.put, List.setIfInBounds_toArray, List.set_cons_zero, List.set_cons_succ, i64_w, i32_w]
    rfl
  refine one_ (i := 3) (N := some 25) #[true, true, true, true, false] rfl rfl (one_of HT_.out (by kernel_rfl)) (by decide) (fun K hK => ?_)
  refine goes_ Try.func11 (by kernel_rfl) rfl #[.agg #[.int .i64 t0, .string t1, .int .i64 t2, .int .i64 t3, .slice A11_0 t4.length c11_0, .slice A11_1 t5.length c11_1, .slice A11_2 t6.length c11_2, .slice A11_3 t7.length c11_3], .agg #[.int .i64 t0, .string t1, .int .i64 t2, .int .i64 t3, .slice A21_0 t4.length c21_0, .slice A21_1 t5.length c21_1, .slice A21_2 t6.length c21_2, .slice A21_3 t7.length c21_3]] (by rfl) rfl rfl (by (try simp only [List.map_toArray, List.map_cons, List.map_nil]); first | done | rfl | (simp only [List.length_drop, List.length_take]; rfl)) ?_
  have hh := p4
  obtain ⟨k24, e24⟩ := hh
  (with_reducible refine (laws_eqTerm.calls k24 t0 t1 t2 t3 _ _ t4 _ _ t5 _ _ t6 _ _ t7 t0 t1 t2 t3 _ _ t4 _ _ t5 _ _ t6 _ _ t7 true _ (Kd.C_below HR11_0.out HB17.out) HC11_0.out (Kd.C_below HR11_1.out HB17.out) HC11_1.out (Kd.C_below HR11_2.out HB17.out) HC11_2.out (Kd.C_below HR11_3.out HB17.out) HC11_3.out (Kd.C_below HR21_0.out HB23.out) HC21_0.out (Kd.C_below HR21_1.out HB23.out) HC21_1.out (Kd.C_below HR21_2.out HB23.out) HC21_2.out (Kd.C_below HR21_3.out HB23.out) HC21_3.out e24).mono ?_)
  rintro e w25 ⟨rfl, hb⟩
  refine ⟨_, rfl, ?_⟩
  clear e24
  replace HB0 := Aside0.mk (below_step HB0.out hb)
  replace HB3 := Aside0.mk (below_step HB3.out hb)
  replace HB8 := Aside0.mk (below_step HB8.out hb)
  replace HB17 := Aside0.mk (below_step HB17.out hb)
  replace HB23 := Aside0.mk (below_step HB23.out hb)
  clear hb
  refine hK.out _ _ ⟨(blk_cell (blk_below BK5_15.out HB17.out) 0).trans rfl, (blk_cell (blk_below BK5_15.out HB17.out) 1).trans rfl, (blk_cell (blk_below BK5_15.out HB17.out) 2).trans rfl, (blk_cell (blk_below BK5_15.out HB17.out) 3).trans rfl, (blk_cell (blk_below BK5_15.out HB17.out) 4).trans rfl, (blk_cell (blk_below BK5_15.out HB17.out) 5).trans rfl, (blk_cell (blk_below BK5_15.out HB17.out) 6).trans rfl, (blk_cell (blk_below BK5_15.out HB17.out) 7).trans rfl, (blk_cell (blk_below BK1_2.out HB3.out) 0).trans rfl, (blk_cell (blk_below BK1_2.out HB3.out) 1).trans rfl, (blk_cell (blk_below BK1_2.out HB3.out) 2).trans rfl, (blk_cell (blk_below BK1_2.out HB3.out) 3).trans rfl, (blk_cell (blk_below BK1_2.out HB3.out) 4).trans rfl, (blk_cell (blk_below BK1_2.out HB3.out) 5).trans rfl, (blk_cell (blk_below BK1_2.out HB3.out) 6).trans rfl, (blk_cell (blk_below BK1_2.out HB3.out) 7).trans rfl⟩ (fun hHeld => ?_)
  clear hK K
  refine norm_ (a' := ?_) ?_ ?_
  rotate_left
  · show Act.put _ (some 25) _ = _
    simp only [Act.put, List.setIfInBounds_toArray, List.set_cons_zero, List.set_cons_succ, i64_w, i32_w]
    rfl
  refine pure_ (i := 4) (N := some 26) (v := ?_) (a' := ?_) #[true, true, true, true, true] rfl rfl (any_of HT_.out (by kernel_rfl)) (fun _ _ _ h => h) (Or.inl ⟨by rfl, ?_⟩) ?_ ?_
  rotate_left
  · intro w'
    go_simp
    with_reducible rfl
  rotate_left
  · simp only [Act.put, List.setIfInBounds_toArray, List.set_cons_zero, List.set_cons_succ, i64_w, i32_w]
    rfl
  refine done_ (done_of HT_.out (by kernel_rfl)) ?_
  clear hHeld HT_ HW_
  go_wp2
  go_ret
  exact ⟨rfl, HB0.out⟩
set_option maxHeartbeats 8000000 in
set_option maxRecDepth 100000 in
theorem FnExactIsClosed_stop (x0 : S28) {left : Int} (hl : decide (left < 0) = true)
    (p0 : ∃ k, laws_szTerm.f k x0.f0 x0.f1 x0.f2 x0.f3.f0 x0.f3.f1 x0.f3.f2 x0.f4 x0.f5 1048576 = some left)
    (W : World) {Ax0_4 : Option Addr} {cx0_4 : Nat} (HRx0_4 : Kd.C Kd.string W Ax0_4 x0.f3.f1.length x0.f3.f1) (HCx0_4 : x0.f3.f1.length ≤ cx0_4) {Ax0_5 : Option Addr} {cx0_5 : Nat} (HRx0_5 : Kd.C k25 W Ax0_5 x0.f3.f2.length x0.f3.f2) (HCx0_5 : x0.f3.f2.length ≤ cx0_5) {Ax0_6 : Option Addr} {cx0_6 : Nat} (HRx0_6 : Kd.C Kd.string W Ax0_6 x0.f4.length x0.f4) (HCx0_6 : x0.f4.length ≤ cx0_6) {Ax0_7 : Option Addr} {cx0_7 : Nat} (HRx0_7 : Kd.C k28 W Ax0_7 x0.f5.length x0.f5) (HCx0_7 : x0.f5.length ≤ cx0_7) :
    Calls Try.prog 3 #[.agg #[.int .i64 x0.f0, .string x0.f1, .int .i64 x0.f2, .int .i64 x0.f3.f0, .slice Ax0_4 x0.f3.f1.length cx0_4, .slice Ax0_5 x0.f3.f2.length cx0_5, .slice Ax0_6 x0.f4.length cx0_6, .slice Ax0_7 x0.f5.length cx0_7]] W fun e w' => e = .returned (.bool true) ∧ Below W.heap.size W w' := by
  replace HRx0_4 := Aside0.mk HRx0_4
  replace HCx0_4 := Aside0.mk HCx0_4
  replace HRx0_5 := Aside0.mk HRx0_5
  replace HCx0_5 := Aside0.mk HCx0_5
  replace HRx0_6 := Aside0.mk HRx0_6
  replace HCx0_6 := Aside0.mk HCx0_6
  replace HRx0_7 := Aside0.mk HRx0_7
  replace HCx0_7 := Aside0.mk HCx0_7
  have HB0 := Aside0.mk (Below.refl W.heap.size W)
  go_enter Try.func3, Try.ntmps3
  go_wp2_with (first
    | ((with_reducible refine gate_dst (N := 1) rfl ?_)
       refine box_event ?hg (N := 1) ?hd (cs := #[.int .i64 x0.f0, .string x0.f1, .int .i64 x0.f2, .int .i64 x0.f3.f0, .slice Ax0_4 x0.f3.f1.length cx0_4, .slice Ax0_5 x0.f3.f2.length cx0_5, .slice Ax0_6 x0.f4.length cx0_6, .slice Ax0_7 x0.f5.length cx0_7]) (t := 28) ?hr ?_; (case hd => rfl); (case hg => rfl); (case hr => first | (go_simp; done) | (go_simp; rfl))
       intro gb1_2 hg w1 hbox hb
       replace HB0 := Aside0.mk (below_step HB0.out hb)
       have HB3 := Aside0.mk (Below.refl w1.heap.size w1)
       have BK1_2 := Aside0.mk hbox
       clear hbox hg hb
       have hx1_0 : w1.cell? ⟨gb1_2, 0, none⟩ = some (.int .i64 x0.f0) := (blk_cell (blk_below BK1_2.out HB3.out) 0).trans rfl
       have hx1_1 : w1.cell? ⟨gb1_2, 1, none⟩ = some (.string x0.f1) := (blk_cell (blk_below BK1_2.out HB3.out) 1).trans rfl
       have hx1_2 : w1.cell? ⟨gb1_2, 2, none⟩ = some (.int .i64 x0.f2) := (blk_cell (blk_below BK1_2.out HB3.out) 2).trans rfl
       have hx1_3 : w1.cell? ⟨gb1_2, 3, none⟩ = some (.int .i64 x0.f3.f0) := (blk_cell (blk_below BK1_2.out HB3.out) 3).trans rfl
       have hx1_4 : w1.cell? ⟨gb1_2, 4, none⟩ = some (.slice Ax0_4 x0.f3.f1.length cx0_4) := (blk_cell (blk_below BK1_2.out HB3.out) 4).trans rfl
       have hx1_5 : w1.cell? ⟨gb1_2, 5, none⟩ = some (.slice Ax0_5 x0.f3.f2.length cx0_5) := (blk_cell (blk_below BK1_2.out HB3.out) 5).trans rfl
       have hx1_6 : w1.cell? ⟨gb1_2, 6, none⟩ = some (.slice Ax0_6 x0.f4.length cx0_6) := (blk_cell (blk_below BK1_2.out HB3.out) 6).trans rfl
       have hx1_7 : w1.cell? ⟨gb1_2, 7, none⟩ = some (.slice Ax0_7 x0.f5.length cx0_7) := (blk_cell (blk_below BK1_2.out HB3.out) 7).trans rfl)
    | ((with_reducible refine gate_callee (f := 7) rfl ?_)
       refine goesL_ (some 9) rfl rfl Try.func7 (by kernel_rfl) rfl #[.agg #[.int .i64 x0.f0, .string x0.f1, .int .i64 x0.f2, .int .i64 x0.f3.f0, .slice Ax0_4 x0.f3.f1.length cx0_4, .slice Ax0_5 x0.f3.f2.length cx0_5, .slice Ax0_6 x0.f4.length cx0_6, .slice Ax0_7 x0.f5.length cx0_7], .int .i64 1048576] rfl (by (try simp only [List.map_toArray, List.map_cons, List.map_nil]); first | done | rfl | (simp only [List.length_drop, List.length_take]; rfl)) ?_
       have hh := p0
       obtain ⟨k4, e4⟩ := hh
       (with_reducible refine (laws_szTerm.calls k4 x0.f0 x0.f1 x0.f2 x0.f3.f0 _ _ x0.f3.f1 _ _ x0.f3.f2 _ _ x0.f4 _ _ x0.f5 1048576 left _ (Kd.C_below HRx0_4.out HB0.out) HCx0_4.out (Kd.C_below HRx0_5.out HB0.out) HCx0_5.out (Kd.C_below HRx0_6.out HB0.out) HCx0_6.out (Kd.C_below HRx0_7.out HB0.out) HCx0_7.out e4).mono ?_)
       rintro e w5 ⟨rfl, hb⟩
       refine ⟨_, rfl, ?_⟩
       clear e4
       clear hx1_0 hx1_1 hx1_2 hx1_3 hx1_4 hx1_5 hx1_6 hx1_7
       replace HB0 := Aside0.mk (below_step HB0.out hb)
       replace HB3 := Aside0.mk (below_step HB3.out hb)
       clear hb))
  go_ret
  exact ⟨rfl, HB0.out⟩
end Go.Proofs.Ytfidfpmgoaainaa.Px
end
section
namespace Go.Proofs.Ytfidfpmgoaainaa.Px
open Go.RowKit Go.Proofs.YtfidfpmgoaainaaW.PrintWords Go.Proofs.YtfidfpmgoaainaaW.PrintLast Go.Proofs.Ytfidfpmgoaainaa.Pl Go.Proofs.Ytfidfpmgoaainaa.Ext
set_option linter.unusedVariables false
set_option linter.unusedSimpArgs false
theorem FnExactIsClosed_told (x0 : S28) (hW0 : W28 x0) (W : World) {A4 A5 A6 A7 : Option Addr} {c4 c5 c6 c7 : Nat} (g4 : Kd.C Kd.string W A4 x0.f3.f1.length x0.f3.f1) (k4 : x0.f3.f1.length ≤ c4) (g5 : Kd.C k25 W A5 x0.f3.f2.length x0.f3.f2) (k5 : x0.f3.f2.length ≤ c5) (g6 : Kd.C Kd.string W A6 x0.f4.length x0.f4) (k6 : x0.f4.length ≤ c6) (g7 : Kd.C k28 W A7 x0.f5.length x0.f5) (k7 : x0.f5.length ≤ c7) :
    Calls Try.prog 3 #[.agg #[.int .i64 x0.f0, .string x0.f1, .int .i64 x0.f2, .int .i64 x0.f3.f0, .slice A4 x0.f3.f1.length c4, .slice A5 x0.f3.f2.length c5, .slice A6 x0.f4.length c6, .slice A7 x0.f5.length c7]] W fun e w' => e = .returned (.bool true) ∧ Below W.heap.size W w' := by
  have hs := szTerm_ev x0 hW0 1048576 (by omega) (by omega)
  by_cases hc : cut (wtTerm x0) 1048576 < 0
  · exact FnExactIsClosed_stop x0 (decide_eq_true hc) hs.rounds W g4 k4 g5 k5 g6 k6 g7 k7
  have hw : wtTerm x0 ≤ 1048576 := by
    have := (not_congr (cut_neg (n := wtTerm x0) (left := 1048576))).1 hc
    omega
  have sm := smTerm_of x0 hW0 hw
  have hn : ndTerm (cvTerm x0) ≤ 1048577 := by have := ndTerm_cv x0; omega
  obtain ⟨h1, h2⟩ := IsClosed_same (cvTerm x0) sm hn
  exact FnExactIsClosed_walk x0 (decide_eq_false hc) hs.rounds (toTerm_ev x0 hw).rounds h2.rounds h1.rounds (eqTerm_ev _ sm).rounds W g4 k4 g5 k5 g6 k6 g7 k7

end Go.Proofs.Ytfidfpmgoaainaa.Px
end
section
namespace Go.Proofs.Ytfidfpmgoaainaa.Rd
open Go.RowKit Go.Proofs.YtfidfpmgoaainaaW.PrintWords
set_option linter.unusedVariables false
/-- What reads as_ data of type t, by at most n steps, is of kind d and meets q. -/
def Op (P : Program) (n : Nat) (t : TypeId) {α : Type} (d : Kd α) (q : α → Prop) : Prop :=
  ∀ (H : Type) (enc : TypeId × Value → H) (w : World) (base : Nat) (spare : Nat → Bool) (held : Bool) (fuel : Nat) (cs : List Value) (x : DataW H × List MemPlace),
    fuel ≤ n → DataW.trod enc P w base spare held fuel t cs = some x → ∃ y, d.K w y cs ∧ q y
theorem Op.imp {P : Program} {n : Nat} {t : TypeId} {α : Type} {d d' : Kd α} {q q' : α → Prop} (h1 : ∀ w y cs, d.K w y cs → d'.K w y cs) (h2 : ∀ y, q y → q' y) (h : Op P n t d q) : Op P n t d' q' := by
  intro H enc w base spare held fuel cs x hf hx
  obtain ⟨y, hy, hq⟩ := h H enc w base spare held fuel cs x hf hx
  exact ⟨y, h1 _ _ _ hy, h2 _ hq⟩
theorem Op.iso {P : Program} {n : Nat} {t : TypeId} {α β : Type} {d : Kd α} {q : α → Prop} {f : β → α} (g : α → β) (hg : ∀ y, f (g y) = y) (h : Op P n t d q) : Op P n t (Kd.iso d f) (fun x => q (f x)) := by
  intro H enc w base spare held fuel cs x hf hx
  obtain ⟨y, hy, hq⟩ := h H enc w base spare held fuel cs x hf hx
  refine ⟨g y, ?_, ?_⟩
  · show d.K w (f (g y)) cs
    rw [hg]; exact hy
  · show q (f (g y))
    rw [hg]; exact hq
theorem Op.int {P : Program} {n : Nat} {t : TypeId} {k : IntKind} (ht : P.underlying t = some (.int k)) : Op P n t (Kd.int k) (fun x => (Lit.int k x).wf = true) := by
  intro H enc w base spare held fuel cs x hf hx
  obtain ⟨m, rfl, rfl, hw⟩ := DataW.trod_int ht hx
  exact ⟨m, rfl, hw⟩
theorem Op.bool {P : Program} {n : Nat} {t : TypeId} (ht : P.underlying t = some .bool) : Op P n t Kd.bool (fun _ => True) := by
  intro H enc w base spare held fuel cs x hf hx
  obtain ⟨m, rfl, rfl⟩ := DataW.trod_bool ht hx
  exact ⟨m, rfl, trivial⟩
theorem trod_string' {H : Type} {enc : TypeId × Value → H} {P : Program} {w : World} {base : Nat} {spare : Nat → Bool} {held : Bool} {fuel : Nat} {t : TypeId} {cs : List Value} {x : DataW H × List MemPlace}
    (ht : P.underlying t = some .string) (h : DataW.trod enc P w base spare held fuel t cs = some x) : ∃ s, cs = [.string s] ∧ s.size ≤ maxLen := by
  cases fuel with
  | zero => simp [DataW.trod] at h
  | succ n =>
    unfold DataW.trod at h
    rw [ht] at h
    split at h <;> simp_all
theorem Op.string {P : Program} {n : Nat} {t : TypeId} (ht : P.underlying t = some .string) : Op P n t Kd.string (fun s => s.size ≤ maxLen) := by
  intro H enc w base spare held fuel cs x hf hx
  obtain ⟨m, rfl, hm⟩ := trod_string' ht hx
  exact ⟨m, rfl, hm⟩
theorem add_add (a : Addr) (i j : Nat) : (a.add i).add j = a.add (i + j) := by
  unfold Addr.add
  by_cases h1 : i = 0 <;> by_cases h2 : j = 0 <;> simp [h1, h2, Nat.add_assoc]
theorem choose_list {α : Type} {p : Nat → α → Prop} (n : Nat) (h : ∀ i, i < n → ∃ y, p i y) : ∃ ys : List α, ys.length = n ∧ ∀ i y, ys[i]? = some y → p i y := by
  induction n with
  | zero => exact ⟨[], rfl, fun i y hy => by simp at hy⟩
  | succ n ih =>
    obtain ⟨ys, hl, hy⟩ := ih (fun i hi => h i (by omega))
    obtain ⟨z, hz⟩ := h n (by omega)
    refine ⟨ys ++ [z], by simp [hl], fun i y hi => ?_⟩
    by_cases hlt : i < n
    · rw [List.getElem?_append_left (by omega)] at hi
      exact hy i y hi
    · by_cases he : i = n
      · subst he
        rw [List.getElem?_append_right (by omega)] at hi
        simp [hl] at hi
        subst hi
        exact hz
      · rw [List.getElem?_eq_none (by simp; omega)] at hi
        cases hi
theorem Op.slice {P : Program} {n : Nat} {t e : TypeId} {α : Type} {d : Kd α} {q : α → Prop} (ht : P.underlying t = some (.slice e)) (hsz : P.cellsOf e = d.sz) (h : ∀ k, k < n → Op P k e d q) :
    Op P n t (Kd.slice e d) (fun xs => xs.length ≤ maxLen ∧ ∀ y ∈ xs, q y) := by
  intro H enc w base spare held fuel cs x hf hx
  rcases DataW.trod_slice ht hx with ⟨rfl, _⟩ | ⟨a, len, cap, elems, rest, m, hm, rfl, _, hb, hl, hc, hlen, hel, _, _⟩
  · exact ⟨[], ⟨none, 0, rfl, Nat.le_refl _, ⟨rfl, by simp, fun hp => absurd hp (by simp)⟩⟩, by simp, fun y hy => by simp at hy⟩
  · have hone : ∀ i, i < len → ∃ y, (∃ c, c.length = d.sz ∧ d.K w y c ∧ ∀ j u, c[j]? = some u → w.cell? (a.add (i * d.sz + j)) = some u) ∧ q y := by
      intro i hi
      have h1 := hel i hi
      rw [List.getElem?_eq_getElem (by omega)] at h1
      obtain ⟨c, hc1, hc2⟩ := Option.bind_eq_some_iff.1 h1
      obtain ⟨y, hy, hq⟩ := h m (by omega) H enc w base spare held m c _ (Nat.le_refl _) hc2
      obtain ⟨_, hcl, hcells⟩ := World.cells?_some hc1
      refine ⟨y, ⟨c, by omega, hy, fun j u hu => ?_⟩, hq⟩
      have hj : j < P.cellsOf e := by
        rw [← hcl]
        exact (List.getElem?_eq_some_iff.1 hu).1
      have := hcells j hj
      rw [add_add, hsz] at this
      rw [this, hu]
    obtain ⟨ys, hyl, hys⟩ := choose_list len hone
    have hmx : len ≤ 9223372036854775807 := by
      have : cap ≤ 9223372036854775807 := hc
      omega
    refine ⟨ys, ⟨some a, cap, by rw [hyl], by omega, ⟨rfl, by omega, fun _ => ⟨a, rfl, fun j p hj => (hys j p hj).1⟩⟩⟩, by rw [hyl]; exact hmx, fun y hy => ?_⟩
    obtain ⟨i, hi, rfl⟩ := List.getElem_of_mem hy
    exact (hys i _ (List.getElem?_eq_getElem hi)).2
/-- Fields, from an offset on. -/
def OpF (P : Program) (n : Nat) (fs : List Field) (off : Nat) {α : Type} (d : Kd α) (q : α → Prop) : Prop :=
  ∀ (H : Type) (enc : TypeId × Value → H) (w : World) (base : Nat) (spare : Nat → Bool) (held : Bool) (fuel : Nat) (cs : List Value), fuel ≤ n →
    (∀ f ∈ fs, ∃ x, DataW.trod enc P w base spare held fuel f.type ((cs.drop f.offset).take (P.cellsOf f.type)) = some x) → cs.length = off + d.sz → ∃ y, d.K w y (cs.drop off) ∧ q y
theorem OpF.one {P : Program} {n : Nat} {f : Field} {off : Nat} {α : Type} {d : Kd α} {q : α → Prop} (ho : f.offset = off) (hsz : P.cellsOf f.type = d.sz) (h : Op P n f.type d q) : OpF P n [f] off d q := by
  intro H enc w base spare held fuel cs hf hx hl
  obtain ⟨x, hx⟩ := hx f (List.mem_singleton.2 rfl)
  rw [ho, hsz, List.take_of_length_le (by rw [List.length_drop]; omega)] at hx
  exact h H enc w base spare held fuel _ x hf hx
theorem OpF.cons {P : Program} {n : Nat} {f : Field} {fs : List Field} {off : Nat} {α β : Type} {a : Kd α} {b : Kd β} {qa : α → Prop} {qb : β → Prop} (ho : f.offset = off) (hsz : P.cellsOf f.type = a.sz) (h : Op P n f.type a qa) (hr : OpF P n fs (off + a.sz) b qb) :
    OpF P n (f :: fs) off (Kd.pair a b) (fun y => qa y.1 ∧ qb y.2) := by
  intro H enc w base spare held fuel cs hf hx hl
  have hl' : cs.length = off + (a.sz + b.sz) := hl
  obtain ⟨x, h1⟩ := hx f (List.mem_cons_self ..)
  rw [ho, hsz] at h1
  obtain ⟨y, hy, hq⟩ := h H enc w base spare held fuel _ x hf h1
  obtain ⟨z, hz, hq2⟩ := hr H enc w base spare held fuel cs hf (fun g hg => hx g (List.mem_cons_of_mem _ hg)) (by omega)
  refine ⟨(y, z), ⟨_, _, ?_, hy, hz⟩, hq, hq2⟩
  rw [← List.drop_drop, List.take_append_drop]
theorem Op.struct {P : Program} {n : Nat} {t : TypeId} {fs : Array Field} {α : Type} {d : Kd α} {q : α → Prop} (ht : P.underlying t = some (.struct fs)) (hsz : P.cellsOf t = d.sz) (h : ∀ k, k < n → OpF P k fs.toList 0 d q) : Op P n t d q := by
  intro H enc w base spare held fuel cs x hf hx
  obtain ⟨xs, m, hm, _, hl, hxl, hfs⟩ := DataW.trod_struct ht hx
  have hr := h m (by omega) H enc w base spare held m cs (Nat.le_refl _) (fun f hfm => ?_) (by omega)
  · simpa using hr
  · obtain ⟨i, hi, rfl⟩ := List.getElem_of_mem hfm
    have hi' : i < fs.size := by simpa using hi
    have h2 := hfs i _ (Array.getElem?_eq_getElem hi')
    rw [List.getElem?_eq_getElem (by omega)] at h2
    exact ⟨_, by simpa using h2⟩
/-- The same at whatever fuel. -/
theorem Op.open_ {P : Program} {t : TypeId} {α : Type} {d : Kd α} {q : α → Prop} (h : ∀ n, Op P n t d q) {H : Type} {enc : TypeId × Value → H} {w : World} {base : Nat} {spare : Nat → Bool} {held : Bool} {v : Value} {x : DataW H} {ps : List MemPlace}
    (ht : DataW.Trod enc P w base spare held t v x ps) : ∃ y, d.K w y v.cells.toList ∧ q y := by
  obtain ⟨fuel, hf⟩ := ht
  exact h fuel H enc w base spare held fuel _ _ (Nat.le_refl _) hf
end Go.Proofs.Ytfidfpmgoaainaa.Rd
end
section
namespace Go.Proofs.Ytfidfpmgoaainaa.Px
open Go.RowKit Go.Proofs.Ytfidfpmgoaainaa.Ext Go.Proofs.YtfidfpmgoaainaaW.PrintWords Go.Proofs.YtfidfpmgoaainaaW.PrintLast Go.Proofs.YtfidfpmgoaainaaW.PrintMore Go.Proofs.Ytfidfpmgoaainaa
set_option linter.unusedVariables false
set_option linter.unusedSimpArgs false

theorem fold25 : ∀ (w : World) (x : S25) (cs : List Value), (F25 k25).K w x cs → k25.K w x cs := by
  intro w x cs h
  obtain ⟨_, _, rfl, rfl, ⟨_, _, rfl, ⟨A1, c1, rfl, l1, g1⟩, ⟨A2, c2, rfl, l2, g2⟩⟩⟩ := h
  exact k25_mk w x l1 g1 l2 g2
theorem op25 : ∀ n, Rd.Op Try.prog n 25 k25 W25 := by
  intro n
  induction n using Nat.strongRecOn with
  | _ n ih =>
  exact Rd.Op.imp (d := F25 k25) fold25 (fun x h => W25.mk h.1 h.2.1 h.2.2.1 h.2.2.2) (Rd.Op.iso (g := fun p => ⟨p.1, p.2.1, p.2.2⟩) (fun _ => rfl) (Rd.Op.struct Try.underlying25 (by kernel_rfl) (fun j0 hj0 => (Rd.OpF.cons rfl (by kernel_rfl) (Rd.Op.int Try.underlying3) (Rd.OpF.cons rfl (by kernel_rfl) (Rd.Op.slice Try.underlying22 (by kernel_rfl) (fun j1 hj1 => (Rd.Op.string Try.underlying9))) (Rd.OpF.one rfl (by kernel_rfl) (Rd.Op.slice Try.underlying23 (by kernel_rfl) (fun j1 hj1 => ih j1 (by omega)))))))))
theorem fold28 : ∀ (w : World) (x : S28) (cs : List Value), (F28 k28).K w x cs → k28.K w x cs := by
  intro w x cs h
  obtain ⟨_, _, rfl, rfl, ⟨_, _, rfl, rfl, ⟨_, _, rfl, rfl, ⟨_, _, rfl, s3, ⟨_, _, rfl, ⟨A4, c4, rfl, l4, g4⟩, ⟨A5, c5, rfl, l5, g5⟩⟩⟩⟩⟩⟩ := h
  obtain ⟨A3_1, c3_1, A3_2, c3_2, rfl, l3_1, g3_1, l3_2, g3_2⟩ := k25_open s3
  exact k28_mk w x l3_1 g3_1 l3_2 g3_2 l4 g4 l5 g5
theorem op28 : ∀ n, Rd.Op Try.prog n 28 k28 W28 := by
  intro n
  induction n using Nat.strongRecOn with
  | _ n ih =>
  exact Rd.Op.imp (d := F28 k28) fold28 (fun x h => W28.mk h.1 h.2.1 h.2.2.1 h.2.2.2.1 h.2.2.2.2.1 h.2.2.2.2.2.1 h.2.2.2.2.2.2) (Rd.Op.iso (g := fun p => ⟨p.1, p.2.1, p.2.2.1, p.2.2.2.1, p.2.2.2.2.1, p.2.2.2.2.2⟩) (fun _ => rfl) (Rd.Op.struct Try.underlying28 (by kernel_rfl) (fun j0 hj0 => (Rd.OpF.cons rfl (by kernel_rfl) (Rd.Op.int Try.underlying3) (Rd.OpF.cons rfl (by kernel_rfl) (Rd.Op.string Try.underlying9) (Rd.OpF.cons rfl (by kernel_rfl) (Rd.Op.int Try.underlying3) (Rd.OpF.cons rfl (by kernel_rfl) (op25 _) (Rd.OpF.cons rfl (by kernel_rfl) (Rd.Op.slice Try.underlying22 (by kernel_rfl) (fun j1 hj1 => (Rd.Op.string Try.underlying9))) (Rd.OpF.one rfl (by kernel_rfl) (Rd.Op.slice Try.underlying26 (by kernel_rfl) (fun j1 hj1 => ih j1 (by omega))))))))))))
end Go.Proofs.Ytfidfpmgoaainaa.Px
end
