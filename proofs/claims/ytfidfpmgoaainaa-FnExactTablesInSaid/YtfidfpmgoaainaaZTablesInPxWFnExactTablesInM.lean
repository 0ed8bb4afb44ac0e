/- The walk of the law FnExactTablesIn: what it does, by what its functions come to. -/
import Derived.Test.YtfidfpmgoaainaaZTablesInWLastM
import Derived.Test.YtfidfpmgoaainaaZTablesInPx1M
import Derived.Test.YtfidfpmgoaainaaZTablesInPxFTypeM
import Derived.Test.YtfidfpmgoaainaaZTablesInPx5
import Derived.Test.YtfidfpmgoaainaaZTablesInPx6M
import Derived.Test.YtfidfpmgoaainaaZTablesInPx8M
import Derived.Test.YtfidfpmgoaainaaZTablesInPxMarkW3M
import Derived.Test.YtfidfpmgoaainaaZTablesInPxFreeInM
import Derived.Test.YtfidfpmgoaainaaZTablesInWWords
import Derived.Deep.Slices
import Derived.ChangeArms
import Derived.DataReads
section
namespace Go.Proofs.Ytfidfpmgoaainaa.Px
open Go.RowKit Go.Proofs.YtfidfpmgoaainaaW.PrintWords Go.Proofs.YtfidfpmgoaainaaW.PrintLast Go.Proofs.YtfidfpmgoaainaaW.PrintMore Go.Proofs.Ytfidfpmgoaainaa.Pl Go.Proofs.Ytfidfpmgoaainaa.Ext
set_option linter.unusedVariables false
set_option linter.unusedSimpArgs false
def laws_FnExactTablesIn.T10 : Bool × List (List Nat × List Nat) := (true, [([], []), ([], []), ([1], [1]), ([0, 2, 2], [0, 2]), ([3], [3])])
def laws_FnExactTablesIn.B10 : List Nat := [0, 0, 2, 7, 15]
theorem laws_FnExactTablesIn.tab10 : rtab .any (opsOf Try.f5 10) = laws_FnExactTablesIn.T10 := by kernel_rfl
theorem laws_FnExactTablesIn.bits10 : waitsOk laws_FnExactTablesIn.T10.2 laws_FnExactTablesIn.B10 = true := by kernel_rfl
set_option maxHeartbeats 8000000 in
set_option maxRecDepth 100000 in
theorem FnExactTablesIn_walk (x0 : S28) {left m : Int} {t : S36} {l : List ByteArray} (hl : decide (left < 0) = false) (hm : decide (m < 0) = false) (HM : Aside0 (m = 1 + (l.length : Nat))) (HLN : Aside0 (l.length ≤ 2097152)) (HLB : Aside0 ((1 : Int) + (l.length : Nat) ≤ 4611686018427387904)) (SM : Aside0 (SmTerm t)) (HCN : Aside0 ((1 : Int) + (cnTerm t : Nat) ≤ 4611686018427387000))
    (p0 : ∃ k, laws_szTerm.f k x0.f0 x0.f1 x0.f2 x0.f3.f0 x0.f3.f1 x0.f3.f2 x0.f4 x0.f5 1048576 = some left)
    (p1 : ∃ k, laws_toTerm.f k x0.f0 x0.f1 x0.f2 x0.f3.f0 x0.f3.f1 x0.f3.f2 x0.f4 x0.f5 = some (t.f0, t.f1, t.f2, t.f3.f0, t.f3.f1, t.f3.f2, t.f4, t.f5))
    (p2 : ∃ k, spec_TablesIn.f k t.f0 t.f1 t.f2 t.f3.f0 t.f3.f1 t.f3.f2 t.f4 t.f5 = some l)
    (p3 : ∃ k, impl_TablesIn.f k t.f0 t.f1 t.f2 t.f3.f0 t.f3.f1 t.f3.f2 t.f4 t.f5 = some l)
    (p4 : ∃ k, laws_eqStringS.f k l l = some true)
    (p5 : ∃ k, laws_eqTerm.f k t.f0 t.f1 t.f2 t.f3.f0 t.f3.f1 t.f3.f2 t.f4 t.f5 t.f0 t.f1 t.f2 t.f3.f0 t.f3.f1 t.f3.f2 t.f4 t.f5 = some true)
    (p6 : ∃ k, laws_heldStringS.f k (mtS 1 l.length) 1 = some m)
    (W : World) {Ax0_4 : Option Addr} {cx0_4 : Nat} (HRx0_4 : Kd.C Kd.string W Ax0_4 x0.f3.f1.length x0.f3.f1) (HCx0_4 : x0.f3.f1.length ≤ cx0_4) {Ax0_5 : Option Addr} {cx0_5 : Nat} (HRx0_5 : Kd.C k25 W Ax0_5 x0.f3.f2.length x0.f3.f2) (HCx0_5 : x0.f3.f2.length ≤ cx0_5) {Ax0_6 : Option Addr} {cx0_6 : Nat} (HRx0_6 : Kd.C Kd.string W Ax0_6 x0.f4.length x0.f4) (HCx0_6 : x0.f4.length ≤ cx0_6) {Ax0_7 : Option Addr} {cx0_7 : Nat} (HRx0_7 : Kd.C k28 W Ax0_7 x0.f5.length x0.f5) (HCx0_7 : x0.f5.length ≤ cx0_7) :
    Calls Try.prog 5 #[.agg #[.int .i64 x0.f0, .string x0.f1, .int .i64 x0.f2, .int .i64 x0.f3.f0, .slice Ax0_4 x0.f3.f1.length cx0_4, .slice Ax0_5 x0.f3.f2.length cx0_5, .slice Ax0_6 x0.f4.length cx0_6, .slice Ax0_7 x0.f5.length cx0_7]] W fun e w' => e = .returned (.bool true) ∧ Below W.heap.size W w' := by
  replace HRx0_4 := Aside0.mk HRx0_4
  replace HCx0_4 := Aside0.mk HCx0_4
  replace HRx0_5 := Aside0.mk HRx0_5
  replace HCx0_5 := Aside0.mk HCx0_5
  replace HRx0_6 := Aside0.mk HRx0_6
  replace HCx0_6 := Aside0.mk HCx0_6
  replace HRx0_7 := Aside0.mk HRx0_7
  replace HCx0_7 := Aside0.mk HCx0_7
  have HB0 := Aside0.mk (Below.refl W.heap.size W)
  go_enter Try.func5, Try.ntmps5
  go_upto_region 10 with (first
    | ((with_reducible refine gate_dst (N := 1) rfl ?_)
       refine box_event ?hg (N := 1) ?hd (cs := #[.int .i64 x0.f0, .string x0.f1, .int .i64 x0.f2, .int .i64 x0.f3.f0, .slice Ax0_4 x0.f3.f1.length cx0_4, .slice Ax0_5 x0.f3.f2.length cx0_5, .slice Ax0_6 x0.f4.length cx0_6, .slice Ax0_7 x0.f5.length cx0_7]) (t := 28) ?hr ?_; (case hd => rfl); (case hg => rfl); (case hr => first | (go_simp; done) | (go_simp; rfl))
       intro gb1_2 hg w1 hbox hb
       replace HB0 := Aside0.mk (below_step HB0.out hb)
       have HB3 := Aside0.mk (Below.refl w1.heap.size w1)
       have BK1_2 := Aside0.mk hbox
       clear hbox hg hb
       have hx1_0 : w1.cell? ⟨gb1_2, 0, none⟩ = some (.int .i64 x0.f0) := (blk_cell (blk_below BK1_2.out HB3.out) 0).trans rfl
       have hx1_1 : w1.cell? ⟨gb1_2, 1, none⟩ = some (.string x0.f1) := (blk_cell (blk_below BK1_2.out HB3.out) 1).trans rfl
       have hx1_2 : w1.cell? ⟨gb1_2, 2, none⟩ = some (.int .i64 x0.f2) := (blk_cell (blk_below BK1_2.out HB3.out) 2).trans rfl
       have hx1_3 : w1.cell? ⟨gb1_2, 3, none⟩ = some (.int .i64 x0.f3.f0) := (blk_cell (blk_below BK1_2.out HB3.out) 3).trans rfl
       have hx1_4 : w1.cell? ⟨gb1_2, 4, none⟩ = some (.slice Ax0_4 x0.f3.f1.length cx0_4) := (blk_cell (blk_below BK1_2.out HB3.out) 4).trans rfl
       have hx1_5 : w1.cell? ⟨gb1_2, 5, none⟩ = some (.slice Ax0_5 x0.f3.f2.length cx0_5) := (blk_cell (blk_below BK1_2.out HB3.out) 5).trans rfl
       have hx1_6 : w1.cell? ⟨gb1_2, 6, none⟩ = some (.slice Ax0_6 x0.f4.length cx0_6) := (blk_cell (blk_below BK1_2.out HB3.out) 6).trans rfl
       have hx1_7 : w1.cell? ⟨gb1_2, 7, none⟩ = some (.slice Ax0_7 x0.f5.length cx0_7) := (blk_cell (blk_below BK1_2.out HB3.out) 7).trans rfl)
    | ((with_reducible refine gate_callee (f := 7) rfl ?_)
       refine goesL_ (some 13) rfl rfl Try.func7 (by kernel_rfl) rfl #[.agg #[.int .i64 x0.f0, .string x0.f1, .int .i64 x0.f2, .int .i64 x0.f3.f0, .slice Ax0_4 x0.f3.f1.length cx0_4, .slice Ax0_5 x0.f3.f2.length cx0_5, .slice Ax0_6 x0.f4.length cx0_6, .slice Ax0_7 x0.f5.length cx0_7], .int .i64 1048576] rfl (by (try simp only [List.map_toArray, List.map_cons, List.map_nil]); first | done | rfl | (simp only [List.length_drop, List.length_take]; rfl)) ?_
       have hh := p0
       obtain ⟨k4, e4⟩ := hh
       (with_reducible refine (laws_szTerm.calls k4 x0.f0 x0.f1 x0.f2 x0.f3.f0 _ _ x0.f3.f1 _ _ x0.f3.f2 _ _ x0.f4 _ _ x0.f5 1048576 left _ (Kd.C_below HRx0_4.out HB0.out) HCx0_4.out (Kd.C_below HRx0_5.out HB0.out) HCx0_5.out (Kd.C_below HRx0_6.out HB0.out) HCx0_6.out (Kd.C_below HRx0_7.out HB0.out) HCx0_7.out e4).mono ?_)
       rintro e w5 ⟨rfl, hb⟩
       refine ⟨_, rfl, ?_⟩
       clear e4
       clear hx1_0 hx1_1 hx1_2 hx1_3 hx1_4 hx1_5 hx1_6 hx1_7
       replace HB0 := Aside0.mk (below_step HB0.out hb)
       replace HB3 := Aside0.mk (below_step HB3.out hb)
       clear hb
       have hx1_0 : w5.cell? ⟨gb1_2, 0, none⟩ = some (.int .i64 x0.f0) := (blk_cell (blk_below BK1_2.out HB3.out) 0).trans rfl
       have hx1_1 : w5.cell? ⟨gb1_2, 1, none⟩ = some (.string x0.f1) := (blk_cell (blk_below BK1_2.out HB3.out) 1).trans rfl
       have hx1_2 : w5.cell? ⟨gb1_2, 2, none⟩ = some (.int .i64 x0.f2) := (blk_cell (blk_below BK1_2.out HB3.out) 2).trans rfl
       have hx1_3 : w5.cell? ⟨gb1_2, 3, none⟩ = some (.int .i64 x0.f3.f0) := (blk_cell (blk_below BK1_2.out HB3.out) 3).trans rfl
       have hx1_4 : w5.cell? ⟨gb1_2, 4, none⟩ = some (.slice Ax0_4 x0.f3.f1.length cx0_4) := (blk_cell (blk_below BK1_2.out HB3.out) 4).trans rfl
       have hx1_5 : w5.cell? ⟨gb1_2, 5, none⟩ = some (.slice Ax0_5 x0.f3.f2.length cx0_5) := (blk_cell (blk_below BK1_2.out HB3.out) 5).trans rfl
       have hx1_6 : w5.cell? ⟨gb1_2, 6, none⟩ = some (.slice Ax0_6 x0.f4.length cx0_6) := (blk_cell (blk_below BK1_2.out HB3.out) 6).trans rfl
       have hx1_7 : w5.cell? ⟨gb1_2, 7, none⟩ = some (.slice Ax0_7 x0.f5.length cx0_7) := (blk_cell (blk_below BK1_2.out HB3.out) 7).trans rfl)
    | ((with_reducible refine gate_callee (f := 9) rfl ?_)
       refine goesL_ (some 17) rfl rfl Try.func9 (by kernel_rfl) rfl #[.agg #[.int .i64 x0.f0, .string x0.f1, .int .i64 x0.f2, .int .i64 x0.f3.f0, .slice Ax0_4 x0.f3.f1.length cx0_4, .slice Ax0_5 x0.f3.f2.length cx0_5, .slice Ax0_6 x0.f4.length cx0_6, .slice Ax0_7 x0.f5.length cx0_7]] rfl (by (try simp only [List.map_toArray, List.map_cons, List.map_nil]); first | done | rfl | (simp only [List.length_drop, List.length_take]; rfl)) ?_
       have hh := p1
       obtain ⟨k6, e6⟩ := hh
       (with_reducible refine (laws_toTerm.calls k6 x0.f0 x0.f1 x0.f2 x0.f3.f0 _ _ x0.f3.f1 _ _ x0.f3.f2 _ _ x0.f4 _ _ x0.f5 t.f0 t.f1 t.f2 t.f3.f0 t.f3.f1 t.f3.f2 t.f4 t.f5 _ (Kd.C_below HRx0_4.out HB0.out) HCx0_4.out (Kd.C_below HRx0_5.out HB0.out) HCx0_5.out (Kd.C_below HRx0_6.out HB0.out) HCx0_6.out (Kd.C_below HRx0_7.out HB0.out) HCx0_7.out e6).mono ?_)
       rintro e w7 ⟨v6_0, v6_1, v6_2, v6_3, rfl, ho6_0, ho6_1, ho6_2, ho6_3, hb⟩
       refine ⟨_, rfl, ?_⟩
       clear e6
       clear hx1_0 hx1_1 hx1_2 hx1_3 hx1_4 hx1_5 hx1_6 hx1_7
       replace HB0 := Aside0.mk (below_step HB0.out hb)
       replace HB3 := Aside0.mk (below_step HB3.out hb)
       clear hb
       have HB8 := Aside0.mk (Below.refl w7.heap.size w7)
       obtain ⟨A6_0, c6_0, ev_⟩ := Kd.R_slice ho6_0
       subst ev_
       have HR6_0 := Aside0.mk (Kd.R_reads' ho6_0).2.2
       have HC6_0 := Aside0.mk (Kd.R_reads' ho6_0).2.1
       clear ho6_0
       obtain ⟨A6_1, c6_1, ev_⟩ := Kd.R_slice ho6_1
       subst ev_
       have HR6_1 := Aside0.mk (Kd.R_reads' ho6_1).2.2
       have HC6_1 := Aside0.mk (Kd.R_reads' ho6_1).2.1
       clear ho6_1
       obtain ⟨A6_2, c6_2, ev_⟩ := Kd.R_slice ho6_2
       subst ev_
       have HR6_2 := Aside0.mk (Kd.R_reads' ho6_2).2.2
       have HC6_2 := Aside0.mk (Kd.R_reads' ho6_2).2.1
       clear ho6_2
       obtain ⟨A6_3, c6_3, ev_⟩ := Kd.R_slice ho6_3
       subst ev_
       have HR6_3 := Aside0.mk (Kd.R_reads' ho6_3).2.2
       have HC6_3 := Aside0.mk (Kd.R_reads' ho6_3).2.1
       clear ho6_3)
    | ((with_reducible refine gate_callee (f := 18) rfl ?_)
       refine goesL_ (some 18) rfl rfl Try.func18 (by kernel_rfl) rfl #[.agg #[.int .i64 t.f0, .string t.f1, .int .i64 t.f2, .int .i64 t.f3.f0, .slice A6_0 t.f3.f1.length c6_0, .slice A6_1 t.f3.f2.length c6_1, .slice A6_2 t.f4.length c6_2, .slice A6_3 t.f5.length c6_3]] rfl (by (try simp only [List.map_toArray, List.map_cons, List.map_nil]); first | done | rfl | (simp only [List.length_drop, List.length_take]; rfl)) ?_
       have hh := p2
       obtain ⟨k9, e9⟩ := hh
       (with_reducible refine (spec_TablesIn.calls k9 t.f0 t.f1 t.f2 t.f3.f0 _ _ t.f3.f1 _ _ t.f3.f2 _ _ t.f4 _ _ t.f5 l _ (Kd.C_below HR6_0.out HB8.out) HC6_0.out (Kd.C_below HR6_1.out HB8.out) HC6_1.out (Kd.C_below HR6_2.out HB8.out) HC6_2.out (Kd.C_below HR6_3.out HB8.out) HC6_3.out e9).mono ?_)
       rintro e w10 ⟨v9_0, rfl, ho9_0, hb⟩
       refine ⟨_, rfl, ?_⟩
       clear e9
       replace HB0 := Aside0.mk (below_step HB0.out hb)
       replace HB3 := Aside0.mk (below_step HB3.out hb)
       replace HB8 := Aside0.mk (below_step HB8.out hb)
       clear hb
       have HB11 := Aside0.mk (Below.refl w10.heap.size w10)
       obtain ⟨A9_0, c9_0, ev_⟩ := Kd.R_slice ho9_0
       subst ev_
       have HR9_0 := Aside0.mk (Kd.R_reads' ho9_0).2.2
       have HC9_0 := Aside0.mk (Kd.R_reads' ho9_0).2.1
       clear ho9_0
       have hx1_0 : w10.cell? ⟨gb1_2, 0, none⟩ = some (.int .i64 x0.f0) := (blk_cell (blk_below BK1_2.out HB3.out) 0).trans rfl
       have hx1_1 : w10.cell? ⟨gb1_2, 1, none⟩ = some (.string x0.f1) := (blk_cell (blk_below BK1_2.out HB3.out) 1).trans rfl
       have hx1_2 : w10.cell? ⟨gb1_2, 2, none⟩ = some (.int .i64 x0.f2) := (blk_cell (blk_below BK1_2.out HB3.out) 2).trans rfl
       have hx1_3 : w10.cell? ⟨gb1_2, 3, none⟩ = some (.int .i64 x0.f3.f0) := (blk_cell (blk_below BK1_2.out HB3.out) 3).trans rfl
       have hx1_4 : w10.cell? ⟨gb1_2, 4, none⟩ = some (.slice Ax0_4 x0.f3.f1.length cx0_4) := (blk_cell (blk_below BK1_2.out HB3.out) 4).trans rfl
       have hx1_5 : w10.cell? ⟨gb1_2, 5, none⟩ = some (.slice Ax0_5 x0.f3.f2.length cx0_5) := (blk_cell (blk_below BK1_2.out HB3.out) 5).trans rfl
       have hx1_6 : w10.cell? ⟨gb1_2, 6, none⟩ = some (.slice Ax0_6 x0.f4.length cx0_6) := (blk_cell (blk_below BK1_2.out HB3.out) 6).trans rfl
       have hx1_7 : w10.cell? ⟨gb1_2, 7, none⟩ = some (.slice Ax0_7 x0.f5.length cx0_7) := (blk_cell (blk_below BK1_2.out HB3.out) 7).trans rfl)
    | ((with_reducible refine gate_callee (f := 9) rfl ?_)
       refine goesL_ (some 20) rfl rfl Try.func9 (by kernel_rfl) rfl #[.agg #[.int .i64 x0.f0, .string x0.f1, .int .i64 x0.f2, .int .i64 x0.f3.f0, .slice Ax0_4 x0.f3.f1.length cx0_4, .slice Ax0_5 x0.f3.f2.length cx0_5, .slice Ax0_6 x0.f4.length cx0_6, .slice Ax0_7 x0.f5.length cx0_7]] rfl (by (try simp only [List.map_toArray, List.map_cons, List.map_nil]); first | done | rfl | (simp only [List.length_drop, List.length_take]; rfl)) ?_
       have hh := p1
       obtain ⟨k12, e12⟩ := hh
       (with_reducible refine (laws_toTerm.calls k12 x0.f0 x0.f1 x0.f2 x0.f3.f0 _ _ x0.f3.f1 _ _ x0.f3.f2 _ _ x0.f4 _ _ x0.f5 t.f0 t.f1 t.f2 t.f3.f0 t.f3.f1 t.f3.f2 t.f4 t.f5 _ (Kd.C_below HRx0_4.out HB0.out) HCx0_4.out (Kd.C_below HRx0_5.out HB0.out) HCx0_5.out (Kd.C_below HRx0_6.out HB0.out) HCx0_6.out (Kd.C_below HRx0_7.out HB0.out) HCx0_7.out e12).mono ?_)
       rintro e w13 ⟨v12_0, v12_1, v12_2, v12_3, rfl, ho12_0, ho12_1, ho12_2, ho12_3, hb⟩
       refine ⟨_, rfl, ?_⟩
       clear e12
       have HA0 := Aside0.mk HB0.out.size
       have HA3 := Aside0.mk HB3.out.size
       have HA8 := Aside0.mk HB8.out.size
       have HA11 := Aside0.mk HB11.out.size
       clear hx1_0 hx1_1 hx1_2 hx1_3 hx1_4 hx1_5 hx1_6 hx1_7
       replace HB0 := Aside0.mk (below_step HB0.out hb)
       replace HB3 := Aside0.mk (below_step HB3.out hb)
       replace HB8 := Aside0.mk (below_step HB8.out hb)
       replace HB11 := Aside0.mk (below_step HB11.out hb)
       clear hb
       have HB14 := Aside0.mk (Below.refl w13.heap.size w13)
       obtain ⟨A12_0, c12_0, ev_⟩ := Kd.R_slice ho12_0
       subst ev_
       have HR12_0 := Aside0.mk (Kd.R_reads' ho12_0).2.2
       have HC12_0 := Aside0.mk (Kd.R_reads' ho12_0).2.1
       have HO12_0 := Aside0.mk ho12_0
       clear ho12_0
       obtain ⟨A12_1, c12_1, ev_⟩ := Kd.R_slice ho12_1
       subst ev_
       have HR12_1 := Aside0.mk (Kd.R_reads' ho12_1).2.2
       have HC12_1 := Aside0.mk (Kd.R_reads' ho12_1).2.1
       have HO12_1 := Aside0.mk ho12_1
       clear ho12_1
       obtain ⟨A12_2, c12_2, ev_⟩ := Kd.R_slice ho12_2
       subst ev_
       have HR12_2 := Aside0.mk (Kd.R_reads' ho12_2).2.2
       have HC12_2 := Aside0.mk (Kd.R_reads' ho12_2).2.1
       have HO12_2 := Aside0.mk ho12_2
       clear ho12_2
       obtain ⟨A12_3, c12_3, ev_⟩ := Kd.R_slice ho12_3
       subst ev_
       have HR12_3 := Aside0.mk (Kd.R_reads' ho12_3).2.2
       have HC12_3 := Aside0.mk (Kd.R_reads' ho12_3).2.1
       have HO12_3 := Aside0.mk ho12_3
       clear ho12_3)
    | ((with_reducible refine gate_dst (N := 5) rfl ?_)
       refine box_event ?hg (N := 5) ?hd (cs := #[.int .i64 0, .string ⟨#[]⟩, .int .i64 0, .int .i64 0, .slice none 0 0, .slice none 0 0, .slice none 0 0, .slice none 0 0]) (t := 36) ?hr ?_; (case hd => rfl); (case hg => rfl); (case hr => first | (go_simp; done) | (go_simp; rfl))
       intro gb5_16 hg w15 hbox hbA
       have HBA := Aside0.mk hbA
       have HGgb5_16 := Aside0.mk (show w13.heap.size ≤ gb5_16 by rw [hg]; exact Nat.le_refl _)
       have HXgb5_16 := Aside0.mk hbox
       clear hbA hg hbox
       have hx5_0 : w15.cell? ⟨gb5_16, 0, none⟩ = some (.int .i64 0) := (blk_cell HXgb5_16.out 0).trans rfl
       have hx5_1 : w15.cell? ⟨gb5_16, 1, none⟩ = some (.string ⟨#[]⟩) := (blk_cell HXgb5_16.out 1).trans rfl
       have hx5_2 : w15.cell? ⟨gb5_16, 2, none⟩ = some (.int .i64 0) := (blk_cell HXgb5_16.out 2).trans rfl
       have hx5_3 : w15.cell? ⟨gb5_16, 3, none⟩ = some (.int .i64 0) := (blk_cell HXgb5_16.out 3).trans rfl
       have hx5_4 : w15.cell? ⟨gb5_16, 4, none⟩ = some (.slice none 0 0) := (blk_cell HXgb5_16.out 4).trans rfl
       have hx5_5 : w15.cell? ⟨gb5_16, 5, none⟩ = some (.slice none 0 0) := (blk_cell HXgb5_16.out 5).trans rfl
       have hx5_6 : w15.cell? ⟨gb5_16, 6, none⟩ = some (.slice none 0 0) := (blk_cell HXgb5_16.out 6).trans rfl
       have hx5_7 : w15.cell? ⟨gb5_16, 7, none⟩ = some (.slice none 0 0) := (blk_cell HXgb5_16.out 7).trans rfl
       have hf5_0 := blk_frozen HXgb5_16.out 0
       have hf5_1 := blk_frozen HXgb5_16.out 1
       have hf5_2 := blk_frozen HXgb5_16.out 2
       have hf5_3 := blk_frozen HXgb5_16.out 3
       have hf5_4 := blk_frozen HXgb5_16.out 4
       have hf5_5 := blk_frozen HXgb5_16.out 5
       have hf5_6 := blk_frozen HXgb5_16.out 6
       have hf5_7 := blk_frozen HXgb5_16.out 7)
    | ((with_reducible refine gate_store (t := 36) (p := 5) rfl ?_)
       refine store_event (t := 36) (p := 5) (v := ?vo_w17) (w1 := ((((((((w15.setCell ⟨gb5_16, 0, none⟩ (.int .i64 t.f0)).setCell ⟨gb5_16, 1, none⟩ (.string t.f1)).setCell ⟨gb5_16, 2, none⟩ (.int .i64 t.f2)).setCell ⟨gb5_16, 3, none⟩ (.int .i64 t.f3.f0)).setCell ⟨gb5_16, 4, none⟩ (.slice A12_0 t.f3.f1.length c12_0)).setCell ⟨gb5_16, 5, none⟩ (.slice A12_1 t.f3.f2.length c12_1)).setCell ⟨gb5_16, 6, none⟩ (.slice A12_2 t.f4.length c12_2)).setCell ⟨gb5_16, 7, none⟩ (.slice A12_3 t.f5.length c12_3))) ?hg ?ho ?hn ?hr ?_; (case ho => rfl); (case hg => rfl); (case hn => rfl); (case hr => first | (go_simp; done) | (go_simp; rfl)); intro w17 hw
       replace HBA := Aside0.mk (show Below w13.heap.size w13 w17 by rw [hw]; exact below_set (below_set (below_set (below_set (below_set (below_set (below_set (below_set (HBA.out) HGgb5_16.out) HGgb5_16.out) HGgb5_16.out) HGgb5_16.out) HGgb5_16.out) HGgb5_16.out) HGgb5_16.out) HGgb5_16.out)
       replace HXgb5_16 := Aside0.mk (show w17.heap[gb5_16]? = some (.cells #[.int .i64 t.f0, .string t.f1, .int .i64 t.f2, .int .i64 t.f3.f0, .slice A12_0 t.f3.f1.length c12_0, .slice A12_1 t.f3.f2.length c12_1, .slice A12_2 t.f4.length c12_2, .slice A12_3 t.f5.length c12_3] 36 (0, 0)) by rw [hw]; exact blk_put (cs := #[.int .i64 t.f0, .string t.f1, .int .i64 t.f2, .int .i64 t.f3.f0, .slice A12_0 t.f3.f1.length c12_0, .slice A12_1 t.f3.f2.length c12_1, .slice A12_2 t.f4.length c12_2, .slice none 0 0]) (blk_put (cs := #[.int .i64 t.f0, .string t.f1, .int .i64 t.f2, .int .i64 t.f3.f0, .slice A12_0 t.f3.f1.length c12_0, .slice A12_1 t.f3.f2.length c12_1, .slice none 0 0, .slice none 0 0]) (blk_put (cs := #[.int .i64 t.f0, .string t.f1, .int .i64 t.f2, .int .i64 t.f3.f0, .slice A12_0 t.f3.f1.length c12_0, .slice none 0 0, .slice none 0 0, .slice none 0 0]) (blk_put (cs := #[.int .i64 t.f0, .string t.f1, .int .i64 t.f2, .int .i64 t.f3.f0, .slice none 0 0, .slice none 0 0, .slice none 0 0, .slice none 0 0]) (blk_put (cs := #[.int .i64 t.f0, .string t.f1, .int .i64 t.f2, .int .i64 0, .slice none 0 0, .slice none 0 0, .slice none 0 0, .slice none 0 0]) (blk_put (cs := #[.int .i64 t.f0, .string t.f1, .int .i64 0, .int .i64 0, .slice none 0 0, .slice none 0 0, .slice none 0 0, .slice none 0 0]) (blk_put (cs := #[.int .i64 t.f0, .string ⟨#[]⟩, .int .i64 0, .int .i64 0, .slice none 0 0, .slice none 0 0, .slice none 0 0, .slice none 0 0]) (blk_put (cs := #[.int .i64 0, .string ⟨#[]⟩, .int .i64 0, .int .i64 0, .slice none 0 0, .slice none 0 0, .slice none 0 0, .slice none 0 0]) (HXgb5_16.out) 0 (.int .i64 t.f0) rfl) 1 (.string t.f1) rfl) 2 (.int .i64 t.f2) rfl) 3 (.int .i64 t.f3.f0) rfl) 4 (.slice A12_0 t.f3.f1.length c12_0) rfl) 5 (.slice A12_1 t.f3.f2.length c12_1) rfl) 6 (.slice A12_2 t.f4.length c12_2) rfl) 7 (.slice A12_3 t.f5.length c12_3) rfl)
       clear hw hx5_0 hx5_1 hx5_2 hx5_3 hx5_4 hx5_5 hx5_6 hx5_7 hf5_0 hf5_1 hf5_2 hf5_3 hf5_4 hf5_5 hf5_6 hf5_7
       have hb := HBA.out
       replace HB0 := Aside0.mk (below_step HB0.out hb)
       replace HB3 := Aside0.mk (below_step HB3.out hb)
       replace HB8 := Aside0.mk (below_step HB8.out hb)
       replace HB11 := Aside0.mk (below_step HB11.out hb)
       replace HB14 := Aside0.mk (below_step HB14.out hb)
       have HB18 := Aside0.mk (Below.refl w17.heap.size w17)
       have BK5_16 := HXgb5_16
       clear HXgb5_16 HGgb5_16
       clear HBA hb
       have hx5_0 : w17.cell? ⟨gb5_16, 0, none⟩ = some (.int .i64 t.f0) := (blk_cell (blk_below BK5_16.out HB18.out) 0).trans rfl
       have hx5_1 : w17.cell? ⟨gb5_16, 1, none⟩ = some (.string t.f1) := (blk_cell (blk_below BK5_16.out HB18.out) 1).trans rfl
       have hx5_2 : w17.cell? ⟨gb5_16, 2, none⟩ = some (.int .i64 t.f2) := (blk_cell (blk_below BK5_16.out HB18.out) 2).trans rfl
       have hx5_3 : w17.cell? ⟨gb5_16, 3, none⟩ = some (.int .i64 t.f3.f0) := (blk_cell (blk_below BK5_16.out HB18.out) 3).trans rfl
       have hx5_4 : w17.cell? ⟨gb5_16, 4, none⟩ = some (.slice A12_0 t.f3.f1.length c12_0) := (blk_cell (blk_below BK5_16.out HB18.out) 4).trans rfl
       have hx5_5 : w17.cell? ⟨gb5_16, 5, none⟩ = some (.slice A12_1 t.f3.f2.length c12_1) := (blk_cell (blk_below BK5_16.out HB18.out) 5).trans rfl
       have hx5_6 : w17.cell? ⟨gb5_16, 6, none⟩ = some (.slice A12_2 t.f4.length c12_2) := (blk_cell (blk_below BK5_16.out HB18.out) 6).trans rfl
       have hx5_7 : w17.cell? ⟨gb5_16, 7, none⟩ = some (.slice A12_3 t.f5.length c12_3) := (blk_cell (blk_below BK5_16.out HB18.out) 7).trans rfl)
    | ((with_reducible refine gate_callee (f := 19) rfl ?_)
       refine goesL_ (some 22) rfl rfl Try.func19 (by kernel_rfl) rfl #[.agg #[.int .i64 t.f0, .string t.f1, .int .i64 t.f2, .int .i64 t.f3.f0, .slice A12_0 t.f3.f1.length c12_0, .slice A12_1 t.f3.f2.length c12_1, .slice A12_2 t.f4.length c12_2, .slice A12_3 t.f5.length c12_3]] rfl (by (try simp only [List.map_toArray, List.map_cons, List.map_nil]); first | done | rfl | (simp only [List.length_drop, List.length_take]; rfl)) ?_
       have hh := p3
       obtain ⟨k19, e19⟩ := hh
       (with_reducible refine (impl_TablesIn.calls k19 t.f0 t.f1 t.f2 t.f3.f0 _ _ t.f3.f1 _ _ t.f3.f2 _ _ t.f4 _ _ t.f5 l _ (Kd.C_below HR12_0.out HB14.out) HC12_0.out (Kd.C_below HR12_1.out HB14.out) HC12_1.out (Kd.C_below HR12_2.out HB14.out) HC12_2.out (Kd.C_below HR12_3.out HB14.out) HC12_3.out e19).mono ?_)
       rintro e w20 ⟨v19_0, rfl, ho19_0, hb⟩
       refine ⟨_, rfl, ?_⟩
       clear e19
       have HP0 := Aside0.mk HB0.out.size
       have HP3 := Aside0.mk HB3.out.size
       have HP8 := Aside0.mk HB8.out.size
       have HP11 := Aside0.mk HB11.out.size
       have HLE := Aside0.mk HB14.out.size
       clear hx5_0 hx5_1 hx5_2 hx5_3 hx5_4 hx5_5 hx5_6 hx5_7
       replace HB0 := Aside0.mk (below_step HB0.out hb)
       replace HB3 := Aside0.mk (below_step HB3.out hb)
       replace HB8 := Aside0.mk (below_step HB8.out hb)
       replace HB11 := Aside0.mk (below_step HB11.out hb)
       replace HB14 := Aside0.mk (below_step HB14.out hb)
       replace HB18 := Aside0.mk (below_step HB18.out hb)
       clear hb
       have HB21 := Aside0.mk (Below.refl w20.heap.size w20)
       obtain ⟨A19_0, c19_0, ev_⟩ := Kd.R_slice ho19_0
       subst ev_
       have HR19_0 := Aside0.mk (Kd.R_reads' ho19_0).2.2
       have HC19_0 := Aside0.mk (Kd.R_reads' ho19_0).2.1
       have HO19_0 := Aside0.mk ho19_0
       clear ho19_0)
    | ((with_reducible refine gate_callee (f := 14) rfl ?_)
       refine goesL_ (some 25) rfl rfl Try.func14 (by kernel_rfl) rfl #[.slice A19_0 l.length c19_0, .slice A9_0 l.length c9_0] rfl (by (try simp only [List.map_toArray, List.map_cons, List.map_nil]); first | done | rfl | (simp only [List.length_drop, List.length_take]; rfl)) ?_
       have hh := p4
       obtain ⟨k22, e22⟩ := hh
       (with_reducible refine (laws_eqStringS.calls k22 _ _ l _ _ l true _ (Kd.C_below HR19_0.out HB21.out) HC19_0.out (Kd.C_below HR9_0.out HB11.out) HC9_0.out e22).mono ?_)
       rintro e w23 ⟨rfl, hb⟩
       refine ⟨_, rfl, ?_⟩
       replace hb := Drawn0.below hb
       clear e22
       replace HB0 := Aside0.mk (below_step HB0.out hb)
       replace HB3 := Aside0.mk (below_step HB3.out hb)
       replace HB8 := Aside0.mk (below_step HB8.out hb)
       replace HB11 := Aside0.mk (below_step HB11.out hb)
       replace HB14 := Aside0.mk (below_step HB14.out hb)
       replace HB18 := Aside0.mk (below_step HB18.out hb)
       replace HB21 := Aside0.mk (below_step HB21.out hb)
       clear hb))
  replace HB0 := Aside0.mk (below_drew1 HB0.out)
  replace HB3 := Aside0.mk (below_drew1 HB3.out)
  replace HB8 := Aside0.mk (below_drew1 HB8.out)
  replace HB11 := Aside0.mk (below_drew1 HB11.out)
  replace HB14 := Aside0.mk (below_drew1 HB14.out)
  replace HB18 := Aside0.mk (below_drew1 HB18.out)
  replace HB21 := Aside0.mk (below_drew1 HB21.out)
  refine start_ (n := 5) (S := fun w' => w'.cell? ⟨gb5_16, 0, none⟩ = some (.int .i64 t.f0) ∧ w'.cell? ⟨gb5_16, 1, none⟩ = some (.string t.f1) ∧ w'.cell? ⟨gb5_16, 2, none⟩ = some (.int .i64 t.f2) ∧ w'.cell? ⟨gb5_16, 3, none⟩ = some (.int .i64 t.f3.f0) ∧ w'.cell? ⟨gb5_16, 4, none⟩ = some (.slice A12_0 t.f3.f1.length c12_0) ∧ w'.cell? ⟨gb5_16, 5, none⟩ = some (.slice A12_1 t.f3.f2.length c12_1) ∧ w'.cell? ⟨gb5_16, 6, none⟩ = some (.slice A12_2 t.f4.length c12_2) ∧ w'.cell? ⟨gb5_16, 7, none⟩ = some (.slice A12_3 t.f5.length c12_3) ∧ w'.cell? ⟨gb1_2, 0, none⟩ = some (.int .i64 x0.f0) ∧ w'.cell? ⟨gb1_2, 1, none⟩ = some (.string x0.f1) ∧ w'.cell? ⟨gb1_2, 2, none⟩ = some (.int .i64 x0.f2) ∧ w'.cell? ⟨gb1_2, 3, none⟩ = some (.int .i64 x0.f3.f0) ∧ w'.cell? ⟨gb1_2, 4, none⟩ = some (.slice Ax0_4 x0.f3.f1.length cx0_4) ∧ w'.cell? ⟨gb1_2, 5, none⟩ = some (.slice Ax0_5 x0.f3.f2.length cx0_5) ∧ w'.cell? ⟨gb1_2, 6, none⟩ = some (.slice Ax0_6 x0.f4.length cx0_6) ∧ w'.cell? ⟨gb1_2, 7, none⟩ = some (.slice Ax0_7 x0.f5.length cx0_7)) (ds := []) #[false, false, false, false, false] (by kernel_rfl) rfl rfl ⟨(blk_cell (blk_below BK5_16.out HB18.out) 0).trans rfl, (blk_cell (blk_below BK5_16.out HB18.out) 1).trans rfl, (blk_cell (blk_below BK5_16.out HB18.out) 2).trans rfl, (blk_cell (blk_below BK5_16.out HB18.out) 3).trans rfl, (blk_cell (blk_below BK5_16.out HB18.out) 4).trans rfl, (blk_cell (blk_below BK5_16.out HB18.out) 5).trans rfl, (blk_cell (blk_below BK5_16.out HB18.out) 6).trans rfl, (blk_cell (blk_below BK5_16.out HB18.out) 7).trans rfl, (blk_cell (blk_below BK1_2.out HB3.out) 0).trans rfl, (blk_cell (blk_below BK1_2.out HB3.out) 1).trans rfl, (blk_cell (blk_below BK1_2.out HB3.out) 2).trans rfl, (blk_cell (blk_below BK1_2.out HB3.out) 3).trans rfl, (blk_cell (blk_below BK1_2.out HB3.out) 4).trans rfl, (blk_cell (blk_below BK1_2.out HB3.out) 5).trans rfl, (blk_cell (blk_below BK1_2.out HB3.out) 6).trans rfl, (blk_cell (blk_below BK1_2.out HB3.out) 7).trans rfl⟩ (fun hHeld => ?_); refine with_tabW laws_FnExactTablesIn.tab10 laws_FnExactTablesIn.bits10 (fun HT_ HW_ => ?_)
  generalize w23.drew = w24 at HB0 HB3 HB8 HB11 HB14 HB18 HB21 hHeld ⊢
  refine take_ (i := 0) (N := some 27) (v := ?_) (a' := ?_) #[true, false, false, false, false] rfl rfl (take_ofW HT_.out HW_.out (by kernel_rfl)) (fun _ _ _ h => h) (Or.inl ⟨by rfl, ?_⟩) hHeld ?_ ?_
  rotate_left
  · rintro w' ⟨s0, s1, s2, s3, s4, s5, s6, s7, s8, s9, s10, s11, s12, s13, s14, s15⟩
    go_simp
    with_reducible rfl
  rotate_left
  · simp only [Act.put, List.setIfInBounds_toArray, List.set_cons_zero, List.set_cons_succ, i64_w, i32_w]
    rfl
  refine take_ (i := 1) (N := some 28) (v := ?_) (a' := ?_) #[true, true, false, false, false] rfl rfl (take_ofW HT_.out HW_.out (by kernel_rfl)) (fun _ _ _ h => h) (Or.inl ⟨by rfl, ?_⟩) hHeld ?_ ?_
  rotate_left
  · rintro w' ⟨s0, s1, s2, s3, s4, s5, s6, s7, s8, s9, s10, s11, s12, s13, s14, s15⟩
    go_simp
    with_reducible rfl
  rotate_left
  · simp only [Act.put, List.setIfInBounds_toArray, List.set_cons_zero, List.set_cons_succ, i64_w, i32_w]
    rfl
  refine one_ (i := 2) (N := some 29) #[true, true, true, false, false] rfl rfl (one_of HT_.out (by kernel_rfl)) (by decide) (fun K hK => ?_)
  refine goes_ Try.func9 (by kernel_rfl) rfl #[.agg #[.int .i64 x0.f0, .string x0.f1, .int .i64 x0.f2, .int .i64 x0.f3.f0, .slice Ax0_4 x0.f3.f1.length cx0_4, .slice Ax0_5 x0.f3.f2.length cx0_5, .slice Ax0_6 x0.f4.length cx0_6, .slice Ax0_7 x0.f5.length cx0_7]] (by rfl) rfl rfl (by (try simp only [List.map_toArray, List.map_cons, List.map_nil]); first | done | rfl | (simp only [List.length_drop, List.length_take]; rfl)) ?_
  have hh := p1
  obtain ⟨k25, e25⟩ := hh
  (with_reducible refine (laws_toTerm.calls k25 x0.f0 x0.f1 x0.f2 x0.f3.f0 _ _ x0.f3.f1 _ _ x0.f3.f2 _ _ x0.f4 _ _ x0.f5 t.f0 t.f1 t.f2 t.f3.f0 t.f3.f1 t.f3.f2 t.f4 t.f5 _ (Kd.C_below HRx0_4.out HB0.out) HCx0_4.out (Kd.C_below HRx0_5.out HB0.out) HCx0_5.out (Kd.C_below HRx0_6.out HB0.out) HCx0_6.out (Kd.C_below HRx0_7.out HB0.out) HCx0_7.out e25).mono ?_)
  rintro e w26 ⟨v25_0, v25_1, v25_2, v25_3, rfl, ho25_0, ho25_1, ho25_2, ho25_3, hb⟩
  refine ⟨_, rfl, ?_⟩
  clear e25
  replace HB0 := Aside0.mk (below_step HB0.out hb)
  replace HB3 := Aside0.mk (below_step HB3.out hb)
  replace HB8 := Aside0.mk (below_step HB8.out hb)
  replace HB11 := Aside0.mk (below_step HB11.out hb)
  replace HB14 := Aside0.mk (below_step HB14.out hb)
  replace HB18 := Aside0.mk (below_step HB18.out hb)
  replace HB21 := Aside0.mk (below_step HB21.out hb)
  clear hb
  have HB27 := Aside0.mk (Below.refl w26.heap.size w26)
  obtain ⟨A25_0, c25_0, ev_⟩ := Kd.R_slice ho25_0
  subst ev_
  have HR25_0 := Aside0.mk (Kd.R_reads' ho25_0).2.2
  have HC25_0 := Aside0.mk (Kd.R_reads' ho25_0).2.1
  clear ho25_0
  obtain ⟨A25_1, c25_1, ev_⟩ := Kd.R_slice ho25_1
  subst ev_
  have HR25_1 := Aside0.mk (Kd.R_reads' ho25_1).2.2
  have HC25_1 := Aside0.mk (Kd.R_reads' ho25_1).2.1
  clear ho25_1
  obtain ⟨A25_2, c25_2, ev_⟩ := Kd.R_slice ho25_2
  subst ev_
  have HR25_2 := Aside0.mk (Kd.R_reads' ho25_2).2.2
  have HC25_2 := Aside0.mk (Kd.R_reads' ho25_2).2.1
  clear ho25_2
  obtain ⟨A25_3, c25_3, ev_⟩ := Kd.R_slice ho25_3
  subst ev_
  have HR25_3 := Aside0.mk (Kd.R_reads' ho25_3).2.2
  have HC25_3 := Aside0.mk (Kd.R_reads' ho25_3).2.1
  clear ho25_3
  refine hK.out _ _ ⟨(blk_cell (blk_below BK5_16.out HB18.out) 0).trans rfl, (blk_cell (blk_below BK5_16.out HB18.out) 1).trans rfl, (blk_cell (blk_below BK5_16.out HB18.out) 2).trans rfl, (blk_cell (blk_below BK5_16.out HB18.out) 3).trans rfl, (blk_cell (blk_below BK5_16.out HB18.out) 4).trans rfl, (blk_cell (blk_below BK5_16.out HB18.out) 5).trans rfl, (blk_cell (blk_below BK5_16.out HB18.out) 6).trans rfl, (blk_cell (blk_below BK5_16.out HB18.out) 7).trans rfl, (blk_cell (blk_below BK1_2.out HB3.out) 0).trans rfl, (blk_cell (blk_below BK1_2.out HB3.out) 1).trans rfl, (blk_cell (blk_below BK1_2.out HB3.out) 2).trans rfl, (blk_cell (blk_below BK1_2.out HB3.out) 3).trans rfl, (blk_cell (blk_below BK1_2.out HB3.out) 4).trans rfl, (blk_cell (blk_below BK1_2.out HB3.out) 5).trans rfl, (blk_cell (blk_below BK1_2.out HB3.out) 6).trans rfl, (blk_cell (blk_below BK1_2.out HB3.out) 7).trans rfl⟩ (fun hHeld => ?_)
  clear hK K
  refine norm_ (a' := ?_) ?_ ?_
  rotate_left
  · show Act.put _ (some 29) _ = _
    simp only [Act.put, List.setIfInBounds_toArray, List.set_cons_zero, List.set_cons_succ, i64_w, i32_w]
    rfl
  refine one_ (i := 3) (N := some 30) #[true, true, true, true, false] rfl rfl (one_of HT_.out (by kernel_rfl)) (by decide) (fun K hK => ?_)
  refine goes_ Try.func11 (by kernel_rfl) rfl #[.agg #[.int .i64 t.f0, .string t.f1, .int .i64 t.f2, .int .i64 t.f3.f0, .slice A12_0 t.f3.f1.length c12_0, .slice A12_1 t.f3.f2.length c12_1, .slice A12_2 t.f4.length c12_2, .slice A12_3 t.f5.length c12_3], .agg #[.int .i64 t.f0, .string t.f1, .int .i64 t.f2, .int .i64 t.f3.f0, .slice A25_0 t.f3.f1.length c25_0, .slice A25_1 t.f3.f2.length c25_1, .slice A25_2 t.f4.length c25_2, .slice A25_3 t.f5.length c25_3]] (by rfl) rfl rfl (by (try simp only [List.map_toArray, List.map_cons, List.map_nil]); first | done | rfl | (simp only [List.length_drop, List.length_take]; rfl)) ?_
  have hh := p5
  obtain ⟨k28, e28⟩ := hh
  (with_reducible refine (laws_eqTerm.calls k28 t.f0 t.f1 t.f2 t.f3.f0 _ _ t.f3.f1 _ _ t.f3.f2 _ _ t.f4 _ _ t.f5 t.f0 t.f1 t.f2 t.f3.f0 _ _ t.f3.f1 _ _ t.f3.f2 _ _ t.f4 _ _ t.f5 true _ (Kd.C_below HR12_0.out HB14.out) HC12_0.out (Kd.C_below HR12_1.out HB14.out) HC12_1.out (Kd.C_below HR12_2.out HB14.out) HC12_2.out (Kd.C_below HR12_3.out HB14.out) HC12_3.out (Kd.C_below HR25_0.out HB27.out) HC25_0.out (Kd.C_below HR25_1.out HB27.out) HC25_1.out (Kd.C_below HR25_2.out HB27.out) HC25_2.out (Kd.C_below HR25_3.out HB27.out) HC25_3.out e28).mono ?_)
  rintro e w29 ⟨rfl, hb⟩
  refine ⟨_, rfl, ?_⟩
  clear e28
  replace HB0 := Aside0.mk (below_step HB0.out hb)
  replace HB3 := Aside0.mk (below_step HB3.out hb)
  replace HB8 := Aside0.mk (below_step HB8.out hb)
  replace HB11 := Aside0.mk (below_step HB11.out hb)
  replace HB14 := Aside0.mk (below_step HB14.out hb)
  replace HB18 := Aside0.mk (below_step HB18.out hb)
  replace HB21 := Aside0.mk (below_step HB21.out hb)
  replace HB27 := Aside0.mk (below_step HB27.out hb)
  clear hb
  refine hK.out _ _ ⟨(blk_cell (blk_below BK5_16.out HB18.out) 0).trans rfl, (blk_cell (blk_below BK5_16.out HB18.out) 1).trans rfl, (blk_cell (blk_below BK5_16.out HB18.out) 2).trans rfl, (blk_cell (blk_below BK5_16.out HB18.out) 3).trans rfl, (blk_cell (blk_below BK5_16.out HB18.out) 4).trans rfl, (blk_cell (blk_below BK5_16.out HB18.out) 5).trans rfl, (blk_cell (blk_below BK5_16.out HB18.out) 6).trans rfl, (blk_cell (blk_below BK5_16.out HB18.out) 7).trans rfl, (blk_cell (blk_below BK1_2.out HB3.out) 0).trans rfl, (blk_cell (blk_below BK1_2.out HB3.out) 1).trans rfl, (blk_cell (blk_below BK1_2.out HB3.out) 2).trans rfl, (blk_cell (blk_below BK1_2.out HB3.out) 3).trans rfl, (blk_cell (blk_below BK1_2.out HB3.out) 4).trans rfl, (blk_cell (blk_below BK1_2.out HB3.out) 5).trans rfl, (blk_cell (blk_below BK1_2.out HB3.out) 6).trans rfl, (blk_cell (blk_below BK1_2.out HB3.out) 7).trans rfl⟩ (fun hHeld => ?_)
  clear hK K
  refine norm_ (a' := ?_) ?_ ?_
  rotate_left
  · show Act.put _ (some 30) _ = _
    simp only [Act.put, List.setIfInBounds_toArray, List.set_cons_zero, List.set_cons_succ, i64_w, i32_w]
    rfl
  refine pure_ (i := 4) (N := some 31) (v := ?_) (a' := ?_) #[true, true, true, true, true] rfl rfl (any_of HT_.out (by kernel_rfl)) (fun _ _ _ h => h) (Or.inl ⟨by rfl, ?_⟩) ?_ ?_
  rotate_left
  · intro w'
    go_simp
    with_reducible rfl
  rotate_left
  · simp only [Act.put, List.setIfInBounds_toArray, List.set_cons_zero, List.set_cons_succ, i64_w, i32_w]
    rfl
  refine done_ (done_of HT_.out (by kernel_rfl)) ?_
  clear hHeld HT_ HW_
  have hx5_0 : w29.cell? ⟨gb5_16, 0, none⟩ = some (.int .i64 t.f0) := (blk_cell (blk_below BK5_16.out HB18.out) 0).trans rfl
  have hx5_1 : w29.cell? ⟨gb5_16, 1, none⟩ = some (.string t.f1) := (blk_cell (blk_below BK5_16.out HB18.out) 1).trans rfl
  have hx5_2 : w29.cell? ⟨gb5_16, 2, none⟩ = some (.int .i64 t.f2) := (blk_cell (blk_below BK5_16.out HB18.out) 2).trans rfl
  have hx5_3 : w29.cell? ⟨gb5_16, 3, none⟩ = some (.int .i64 t.f3.f0) := (blk_cell (blk_below BK5_16.out HB18.out) 3).trans rfl
  have hx5_4 : w29.cell? ⟨gb5_16, 4, none⟩ = some (.slice A12_0 t.f3.f1.length c12_0) := (blk_cell (blk_below BK5_16.out HB18.out) 4).trans rfl
  have hx5_5 : w29.cell? ⟨gb5_16, 5, none⟩ = some (.slice A12_1 t.f3.f2.length c12_1) := (blk_cell (blk_below BK5_16.out HB18.out) 5).trans rfl
  have hx5_6 : w29.cell? ⟨gb5_16, 6, none⟩ = some (.slice A12_2 t.f4.length c12_2) := (blk_cell (blk_below BK5_16.out HB18.out) 6).trans rfl
  have hx5_7 : w29.cell? ⟨gb5_16, 7, none⟩ = some (.slice A12_3 t.f5.length c12_3) := (blk_cell (blk_below BK5_16.out HB18.out) 7).trans rfl
  go_wp2_with (first
    | ((with_reducible refine gate_callee (f := 15) rfl ?_)
       refine goesL_ (some 34) rfl rfl Try.func15 (by kernel_rfl) rfl #[.agg #[.int .i64 t.f0, .string t.f1, .int .i64 t.f2, .int .i64 t.f3.f0, .slice A12_0 t.f3.f1.length c12_0, .slice A12_1 t.f3.f2.length c12_1, .slice A12_2 t.f4.length c12_2, .slice A12_3 t.f5.length c12_3], .int .i64 1] rfl (by (try simp only [List.map_toArray, List.map_cons, List.map_nil]); first | done | rfl) ?_
       (with_reducible refine (goE t SM.out 1 _ _ _ _ _ _ _ _ (fun k => w10.heap.size ≤ k ∧ k < w13.heap.size) _ (by decide) HCN.out ((shL_at HO12_0.out).step (fun _ h => h) (Sw.of_below (fun _ => False) HB14.out)) ((shTS_at HO12_1.out).step (fun _ h => h) (Sw.of_below (fun _ => False) HB14.out)) ((shL_at HO12_2.out).step (fun _ h => h) (Sw.of_below (fun _ => False) HB14.out)) ((shES_at HO12_3.out).step (fun _ h => h) (Sw.of_below (fun _ => False) HB14.out))).mono ?_)
       rintro e w30 ⟨rm, hr0, rfl, hs⟩
       refine ⟨_, rfl, ?_⟩
       clear hx5_0 hx5_1 hx5_2 hx5_3 hx5_4 hx5_5 hx5_6 hx5_7
       have hrm : decide (rm < 0) = false := decide_eq_false (by omega)
       clear hr0
       replace HB0 := Aside0.mk (Sw.old HB0.out hs (fun k hk => Nat.le_trans HA0.out hk.1))
       replace HB3 := Aside0.mk (Sw.old HB3.out hs (fun k hk => Nat.le_trans HA3.out hk.1))
       replace HB8 := Aside0.mk (Sw.old HB8.out hs (fun k hk => Nat.le_trans HA8.out hk.1))
       replace HB11 := Aside0.mk (Sw.old HB11.out hs (fun k hk => Nat.le_trans HA11.out hk.1))
       have HG := Aside0.mk (Kd.R_kept (Kd.R_bound (Kd.R_below HO19_0.out HB21.out)) hs.kept (fun k hk h2 => absurd (Nat.le_trans HLE.out hk.2.1) (Nat.not_le_of_lt h2.2)))
       clear hs HO19_0 HO12_0 HO12_1 HO12_2 HO12_3 HB14 HB18 HB21 HB27
       have HB31 := Aside0.mk (Below.refl w30.heap.size w30)
       clear HR19_0
       have HR19_0 := Aside0.mk (Kd.R_reads' HG.out).2.2)
    | (go_at_call 14
       have hh := p4
       obtain ⟨k32, e32⟩ := hh
       (with_reducible refine (laws_eqStringS.calls k32 _ _ l _ _ l true _ (Kd.C_below HR19_0.out HB31.out) HC19_0.out (Kd.C_below HR9_0.out HB11.out) HC9_0.out e32).mono ?_)
       rintro e w33 ⟨rfl, hb⟩
       replace hb := Drawn0.below hb
       clear e32
       replace HB0 := Aside0.mk (below_step HB0.out hb)
       replace HB3 := Aside0.mk (below_step HB3.out hb)
       replace HB8 := Aside0.mk (below_step HB8.out hb)
       replace HB11 := Aside0.mk (below_step HB11.out hb)
       replace HB31 := Aside0.mk (below_step HB31.out hb)
       clear hb)
    | ((with_reducible refine gate_callee (f := 16) rfl ?_)
       refine goesL_ (some 45) rfl rfl Try.func16 (by kernel_rfl) rfl #[.slice A19_0 l.length c19_0, .int .i64 1] rfl (by (try simp only [List.map_toArray, List.map_cons, List.map_nil]); first | done | rfl) ?_
       (with_reducible refine (markStringS_own l HLN.out 1 (by decide) HLB.out _ _ W _ HB0.out (Kd.R_lower (Kd.R_below HG.out HB31.out) HP0.out)).mono ?_)
       rintro e w34 ⟨he, hr, hb2, hk⟩
       obtain rfl : e = .returned (.int .i64 m) := by rw [he, HM.out]
       clear he
       refine ⟨_, rfl, ?_⟩
       have n0 := Aside0.mk (old_kept HB0.out HB0.out hb2 hk (fun k hk2 => Nat.le_trans HP0.out hk2.2.1))
       have n3 := Aside0.mk (old_kept HB3.out HB0.out hb2 hk (fun k hk2 => Nat.le_trans HP3.out hk2.2.1))
       have n8 := Aside0.mk (old_kept HB8.out HB0.out hb2 hk (fun k hk2 => Nat.le_trans HP8.out hk2.2.1))
       have n11 := Aside0.mk (old_kept HB11.out HB0.out hb2 hk (fun k hk2 => Nat.le_trans HP11.out hk2.2.1))
       clear HG HR19_0 HB0 HB3 HB8 HB11 HB31
       have HB0 := n0
       have HB3 := n3
       have HB8 := n8
       have HB11 := n11
       clear n0 n3 n8 n11
       have HB35 := Aside0.mk (Below.refl w34.heap.size w34)
       have HRM := Aside0.mk (show Kd.C Kd.string w34 A19_0 (mtS 1 l.length).length (mtS 1 l.length) by first | exact (Kd.R_reads' hr).2.2 | (rw [mtS_length]; exact (Kd.R_reads' hr).2.2))
       have HCM := Aside0.mk (show (mtS 1 l.length).length ≤ c19_0 by rw [mtS_length]; exact HC19_0.out)
       clear hr hb2 hk)
    | ((with_reducible refine gate_callee (f := 17) rfl ?_)
       refine goesL_ (some 48) rfl rfl Try.func17 (by kernel_rfl) rfl #[.slice A19_0 l.length c19_0, .int .i64 1] rfl (by (try simp only [List.map_toArray, List.map_cons, List.map_nil]); first | done | rfl) ?_
       have hh := p6
       obtain ⟨k37, e37⟩ := hh
       refine calls_of_args (args' := #[.slice A19_0 (mtS 1 l.length).length c19_0, .int .i64 1]) (by simp only [mtS_length]) ?_
       (with_reducible refine (laws_heldStringS.calls k37 _ _ (mtS 1 l.length) 1 m _ (Kd.C_below HRM.out HB35.out) HCM.out e37).mono ?_)
       rintro e w36 ⟨rfl, hb⟩
       refine ⟨_, rfl, ?_⟩
       clear e37
       replace HB0 := Aside0.mk (below_step HB0.out hb)
       replace HB3 := Aside0.mk (below_step HB3.out hb)
       replace HB8 := Aside0.mk (below_step HB8.out hb)
       replace HB11 := Aside0.mk (below_step HB11.out hb)
       replace HB35 := Aside0.mk (below_step HB35.out hb)
       clear hb
       have hx1_0 : w36.cell? ⟨gb1_2, 0, none⟩ = some (.int .i64 x0.f0) := (blk_cell (blk_below BK1_2.out HB3.out) 0).trans rfl
       have hx1_1 : w36.cell? ⟨gb1_2, 1, none⟩ = some (.string x0.f1) := (blk_cell (blk_below BK1_2.out HB3.out) 1).trans rfl
       have hx1_2 : w36.cell? ⟨gb1_2, 2, none⟩ = some (.int .i64 x0.f2) := (blk_cell (blk_below BK1_2.out HB3.out) 2).trans rfl
       have hx1_3 : w36.cell? ⟨gb1_2, 3, none⟩ = some (.int .i64 x0.f3.f0) := (blk_cell (blk_below BK1_2.out HB3.out) 3).trans rfl
       have hx1_4 : w36.cell? ⟨gb1_2, 4, none⟩ = some (.slice Ax0_4 x0.f3.f1.length cx0_4) := (blk_cell (blk_below BK1_2.out HB3.out) 4).trans rfl
       have hx1_5 : w36.cell? ⟨gb1_2, 5, none⟩ = some (.slice Ax0_5 x0.f3.f2.length cx0_5) := (blk_cell (blk_below BK1_2.out HB3.out) 5).trans rfl
       have hx1_6 : w36.cell? ⟨gb1_2, 6, none⟩ = some (.slice Ax0_6 x0.f4.length cx0_6) := (blk_cell (blk_below BK1_2.out HB3.out) 6).trans rfl
       have hx1_7 : w36.cell? ⟨gb1_2, 7, none⟩ = some (.slice Ax0_7 x0.f5.length cx0_7) := (blk_cell (blk_below BK1_2.out HB3.out) 7).trans rfl)
    | ((with_reducible refine gate_callee (f := 9) rfl ?_)
       refine goesL_ (some 55) rfl rfl Try.func9 (by kernel_rfl) rfl #[.agg #[.int .i64 x0.f0, .string x0.f1, .int .i64 x0.f2, .int .i64 x0.f3.f0, .slice Ax0_4 x0.f3.f1.length cx0_4, .slice Ax0_5 x0.f3.f2.length cx0_5, .slice Ax0_6 x0.f4.length cx0_6, .slice Ax0_7 x0.f5.length cx0_7]] rfl (by (try simp only [List.map_toArray, List.map_cons, List.map_nil]); first | done | rfl | (simp only [List.length_drop, List.length_take]; rfl)) ?_
       have hh := p1
       obtain ⟨k38, e38⟩ := hh
       (with_reducible refine (laws_toTerm.calls k38 x0.f0 x0.f1 x0.f2 x0.f3.f0 _ _ x0.f3.f1 _ _ x0.f3.f2 _ _ x0.f4 _ _ x0.f5 t.f0 t.f1 t.f2 t.f3.f0 t.f3.f1 t.f3.f2 t.f4 t.f5 _ (Kd.C_below HRx0_4.out HB0.out) HCx0_4.out (Kd.C_below HRx0_5.out HB0.out) HCx0_5.out (Kd.C_below HRx0_6.out HB0.out) HCx0_6.out (Kd.C_below HRx0_7.out HB0.out) HCx0_7.out e38).mono ?_)
       rintro e w39 ⟨v38_0, v38_1, v38_2, v38_3, rfl, ho38_0, ho38_1, ho38_2, ho38_3, hb⟩
       refine ⟨_, rfl, ?_⟩
       clear e38
       clear hx1_0 hx1_1 hx1_2 hx1_3 hx1_4 hx1_5 hx1_6 hx1_7
       replace HB0 := Aside0.mk (below_step HB0.out hb)
       replace HB3 := Aside0.mk (below_step HB3.out hb)
       replace HB8 := Aside0.mk (below_step HB8.out hb)
       replace HB11 := Aside0.mk (below_step HB11.out hb)
       replace HB35 := Aside0.mk (below_step HB35.out hb)
       clear hb
       have HB40 := Aside0.mk (Below.refl w39.heap.size w39)
       obtain ⟨A38_0, c38_0, ev_⟩ := Kd.R_slice ho38_0
       subst ev_
       have HR38_0 := Aside0.mk (Kd.R_reads' ho38_0).2.2
       have HC38_0 := Aside0.mk (Kd.R_reads' ho38_0).2.1
       clear ho38_0
       obtain ⟨A38_1, c38_1, ev_⟩ := Kd.R_slice ho38_1
       subst ev_
       have HR38_1 := Aside0.mk (Kd.R_reads' ho38_1).2.2
       have HC38_1 := Aside0.mk (Kd.R_reads' ho38_1).2.1
       clear ho38_1
       obtain ⟨A38_2, c38_2, ev_⟩ := Kd.R_slice ho38_2
       subst ev_
       have HR38_2 := Aside0.mk (Kd.R_reads' ho38_2).2.2
       have HC38_2 := Aside0.mk (Kd.R_reads' ho38_2).2.1
       clear ho38_2
       obtain ⟨A38_3, c38_3, ev_⟩ := Kd.R_slice ho38_3
       subst ev_
       have HR38_3 := Aside0.mk (Kd.R_reads' ho38_3).2.2
       have HC38_3 := Aside0.mk (Kd.R_reads' ho38_3).2.1
       clear ho38_3)
    | ((with_reducible refine gate_callee (f := 19) rfl ?_)
       refine goesL_ (some 56) rfl rfl Try.func19 (by kernel_rfl) rfl #[.agg #[.int .i64 t.f0, .string t.f1, .int .i64 t.f2, .int .i64 t.f3.f0, .slice A38_0 t.f3.f1.length c38_0, .slice A38_1 t.f3.f2.length c38_1, .slice A38_2 t.f4.length c38_2, .slice A38_3 t.f5.length c38_3]] rfl (by (try simp only [List.map_toArray, List.map_cons, List.map_nil]); first | done | rfl | (simp only [List.length_drop, List.length_take]; rfl)) ?_
       have hh := p3
       obtain ⟨k41, e41⟩ := hh
       (with_reducible refine (impl_TablesIn.calls k41 t.f0 t.f1 t.f2 t.f3.f0 _ _ t.f3.f1 _ _ t.f3.f2 _ _ t.f4 _ _ t.f5 l _ (Kd.C_below HR38_0.out HB40.out) HC38_0.out (Kd.C_below HR38_1.out HB40.out) HC38_1.out (Kd.C_below HR38_2.out HB40.out) HC38_2.out (Kd.C_below HR38_3.out HB40.out) HC38_3.out e41).mono ?_)
       rintro e w42 ⟨v41_0, rfl, ho41_0, hb⟩
       refine ⟨_, rfl, ?_⟩
       clear e41
       replace HB0 := Aside0.mk (below_step HB0.out hb)
       replace HB3 := Aside0.mk (below_step HB3.out hb)
       replace HB8 := Aside0.mk (below_step HB8.out hb)
       replace HB11 := Aside0.mk (below_step HB11.out hb)
       replace HB35 := Aside0.mk (below_step HB35.out hb)
       replace HB40 := Aside0.mk (below_step HB40.out hb)
       clear hb
       have HB43 := Aside0.mk (Below.refl w42.heap.size w42)
       obtain ⟨A41_0, c41_0, ev_⟩ := Kd.R_slice ho41_0
       subst ev_
       have HR41_0 := Aside0.mk (Kd.R_reads' ho41_0).2.2
       have HC41_0 := Aside0.mk (Kd.R_reads' ho41_0).2.1
       clear ho41_0)
    | ((with_reducible refine gate_callee (f := 14) rfl ?_)
       refine goesL_ (some 59) rfl rfl Try.func14 (by kernel_rfl) rfl #[.slice A41_0 l.length c41_0, .slice A9_0 l.length c9_0] rfl (by (try simp only [List.map_toArray, List.map_cons, List.map_nil]); first | done | rfl | (simp only [List.length_drop, List.length_take]; rfl)) ?_
       have hh := p4
       obtain ⟨k44, e44⟩ := hh
       (with_reducible refine (laws_eqStringS.calls k44 _ _ l _ _ l true _ (Kd.C_below HR41_0.out HB43.out) HC41_0.out (Kd.C_below HR9_0.out HB11.out) HC9_0.out e44).mono ?_)
       rintro e w45 ⟨rfl, hb⟩
       refine ⟨_, rfl, ?_⟩
       replace hb := Drawn0.below hb
       clear e44
       replace HB0 := Aside0.mk (below_step HB0.out hb)
       replace HB3 := Aside0.mk (below_step HB3.out hb)
       replace HB8 := Aside0.mk (below_step HB8.out hb)
       replace HB11 := Aside0.mk (below_step HB11.out hb)
       replace HB35 := Aside0.mk (below_step HB35.out hb)
       replace HB40 := Aside0.mk (below_step HB40.out hb)
       replace HB43 := Aside0.mk (below_step HB43.out hb)
       clear hb)
    | ((with_reducible refine gate_callee (f := 17) rfl ?_)
       refine goesL_ (some 63) rfl rfl Try.func17 (by kernel_rfl) rfl #[.slice A19_0 l.length c19_0, .int .i64 1] rfl (by (try simp only [List.map_toArray, List.map_cons, List.map_nil]); first | done | rfl) ?_
       have hh := p6
       obtain ⟨k47, e47⟩ := hh
       refine calls_of_args (args' := #[.slice A19_0 (mtS 1 l.length).length c19_0, .int .i64 1]) (by simp only [mtS_length]) ?_
       (with_reducible refine (laws_heldStringS.calls k47 _ _ (mtS 1 l.length) 1 m _ (Kd.C_below HRM.out HB35.out) HCM.out e47).mono ?_)
       rintro e w46 ⟨rfl, hb⟩
       refine ⟨_, rfl, ?_⟩
       clear e47
       replace HB0 := Aside0.mk (below_step HB0.out hb)
       replace HB3 := Aside0.mk (below_step HB3.out hb)
       replace HB8 := Aside0.mk (below_step HB8.out hb)
       replace HB11 := Aside0.mk (below_step HB11.out hb)
       replace HB35 := Aside0.mk (below_step HB35.out hb)
       replace HB40 := Aside0.mk (below_step HB40.out hb)
       replace HB43 := Aside0.mk (below_step HB43.out hb)
       clear hb))
  go_ret
  exact ⟨rfl, HB0.out⟩
set_option maxHeartbeats 8000000 in
set_option maxRecDepth 100000 in
theorem FnExactTablesIn_stop (x0 : S28) {left : Int} (hl : decide (left < 0) = true)
    (p0 : ∃ k, laws_szTerm.f k x0.f0 x0.f1 x0.f2 x0.f3.f0 x0.f3.f1 x0.f3.f2 x0.f4 x0.f5 1048576 = some left)
    (W : World) {Ax0_4 : Option Addr} {cx0_4 : Nat} (HRx0_4 : Kd.C Kd.string W Ax0_4 x0.f3.f1.length x0.f3.f1) (HCx0_4 : x0.f3.f1.length ≤ cx0_4) {Ax0_5 : Option Addr} {cx0_5 : Nat} (HRx0_5 : Kd.C k25 W Ax0_5 x0.f3.f2.length x0.f3.f2) (HCx0_5 : x0.f3.f2.length ≤ cx0_5) {Ax0_6 : Option Addr} {cx0_6 : Nat} (HRx0_6 : Kd.C Kd.string W Ax0_6 x0.f4.length x0.f4) (HCx0_6 : x0.f4.length ≤ cx0_6) {Ax0_7 : Option Addr} {cx0_7 : Nat} (HRx0_7 : Kd.C k28 W Ax0_7 x0.f5.length x0.f5) (HCx0_7 : x0.f5.length ≤ cx0_7) :
    Calls Try.prog 5 #[.agg #[.int .i64 x0.f0, .string x0.f1, .int .i64 x0.f2, .int .i64 x0.f3.f0, .slice Ax0_4 x0.f3.f1.length cx0_4, .slice Ax0_5 x0.f3.f2.length cx0_5, .slice Ax0_6 x0.f4.length cx0_6, .slice Ax0_7 x0.f5.length cx0_7]] W fun e w' => e = .returned (.bool true) ∧ Below W.heap.size W w' := by
  replace HRx0_4 := Aside0.mk HRx0_4
  replace HCx0_4 := Aside0.mk HCx0_4
  replace HRx0_5 := Aside0.mk HRx0_5
  replace HCx0_5 := Aside0.mk HCx0_5
  replace HRx0_6 := Aside0.mk HRx0_6
  replace HCx0_6 := Aside0.mk HCx0_6
  replace HRx0_7 := Aside0.mk HRx0_7
  replace HCx0_7 := Aside0.mk HCx0_7
  have HB0 := Aside0.mk (Below.refl W.heap.size W)
  go_enter Try.func5, Try.ntmps5
  go_wp2_with (first
    | ((with_reducible refine gate_dst (N := 1) rfl ?_)
       refine box_event ?hg (N := 1) ?hd (cs := #[.int .i64 x0.f0, .string x0.f1, .int .i64 x0.f2, .int .i64 x0.f3.f0, .slice Ax0_4 x0.f3.f1.length cx0_4, .slice Ax0_5 x0.f3.f2.length cx0_5, .slice Ax0_6 x0.f4.length cx0_6, .slice Ax0_7 x0.f5.length cx0_7]) (t := 28) ?hr ?_; (case hd => rfl); (case hg => rfl); (case hr => first | (go_simp; done) | (go_simp; rfl))
       intro gb1_2 hg w1 hbox hb
       replace HB0 := Aside0.mk (below_step HB0.out hb)
       have HB3 := Aside0.mk (Below.refl w1.heap.size w1)
       have BK1_2 := Aside0.mk hbox
       clear hbox hg hb
       have hx1_0 : w1.cell? ⟨gb1_2, 0, none⟩ = some (.int .i64 x0.f0) := (blk_cell (blk_below BK1_2.out HB3.out) 0).trans rfl
       have hx1_1 : w1.cell? ⟨gb1_2, 1, none⟩ = some (.string x0.f1) := (blk_cell (blk_below BK1_2.out HB3.out) 1).trans rfl
       have hx1_2 : w1.cell? ⟨gb1_2, 2, none⟩ = some (.int .i64 x0.f2) := (blk_cell (blk_below BK1_2.out HB3.out) 2).trans rfl
       have hx1_3 : w1.cell? ⟨gb1_2, 3, none⟩ = some (.int .i64 x0.f3.f0) := (blk_cell (blk_below BK1_2.out HB3.out) 3).trans rfl
       have hx1_4 : w1.cell? ⟨gb1_2, 4, none⟩ = some (.slice Ax0_4 x0.f3.f1.length cx0_4) := (blk_cell (blk_below BK1_2.out HB3.out) 4).trans rfl
       have hx1_5 : w1.cell? ⟨gb1_2, 5, none⟩ = some (.slice Ax0_5 x0.f3.f2.length cx0_5) := (blk_cell (blk_below BK1_2.out HB3.out) 5).trans rfl
       have hx1_6 : w1.cell? ⟨gb1_2, 6, none⟩ = some (.slice Ax0_6 x0.f4.length cx0_6) := (blk_cell (blk_below BK1_2.out HB3.out) 6).trans rfl
       have hx1_7 : w1.cell? ⟨gb1_2, 7, none⟩ = some (.slice Ax0_7 x0.f5.length cx0_7) := (blk_cell (blk_below BK1_2.out HB3.out) 7).trans rfl)
    | ((with_reducible refine gate_callee (f := 7) rfl ?_)
       refine goesL_ (some 13) rfl rfl Try.func7 (by kernel_rfl) rfl #[.agg #[.int .i64 x0.f0, .string x0.f1, .int .i64 x0.f2, .int .i64 x0.f3.f0, .slice Ax0_4 x0.f3.f1.length cx0_4, .slice Ax0_5 x0.f3.f2.length cx0_5, .slice Ax0_6 x0.f4.length cx0_6, .slice Ax0_7 x0.f5.length cx0_7], .int .i64 1048576] rfl (by (try simp only [List.map_toArray, List.map_cons, List.map_nil]); first | done | rfl | (simp only [List.length_drop, List.length_take]; rfl)) ?_
       have hh := p0
       obtain ⟨k4, e4⟩ := hh
       (with_reducible refine (laws_szTerm.calls k4 x0.f0 x0.f1 x0.f2 x0.f3.f0 _ _ x0.f3.f1 _ _ x0.f3.f2 _ _ x0.f4 _ _ x0.f5 1048576 left _ (Kd.C_below HRx0_4.out HB0.out) HCx0_4.out (Kd.C_below HRx0_5.out HB0.out) HCx0_5.out (Kd.C_below HRx0_6.out HB0.out) HCx0_6.out (Kd.C_below HRx0_7.out HB0.out) HCx0_7.out e4).mono ?_)
       rintro e w5 ⟨rfl, hb⟩
       refine ⟨_, rfl, ?_⟩
       clear e4
       clear hx1_0 hx1_1 hx1_2 hx1_3 hx1_4 hx1_5 hx1_6 hx1_7
       replace HB0 := Aside0.mk (below_step HB0.out hb)
       replace HB3 := Aside0.mk (below_step HB3.out hb)
       clear hb))
  go_ret
  exact ⟨rfl, HB0.out⟩
end Go.Proofs.Ytfidfpmgoaainaa.Px
end
section
namespace Go.Proofs.Ytfidfpmgoaainaa.Px
open Go.RowKit Go.Proofs.YtfidfpmgoaainaaW.PrintWords Go.Proofs.YtfidfpmgoaainaaW.PrintLast Go.Proofs.Ytfidfpmgoaainaa.Pl Go.Proofs.Ytfidfpmgoaainaa.Ext
set_option linter.unusedVariables false
set_option linter.unusedSimpArgs false
theorem FnExactTablesIn_told (x0 : S28) (hW0 : W28 x0) (W : World) {A4 A5 A6 A7 : Option Addr} {c4 c5 c6 c7 : Nat} (g4 : Kd.C Kd.string W A4 x0.f3.f1.length x0.f3.f1) (k4 : x0.f3.f1.length ≤ c4) (g5 : Kd.C k25 W A5 x0.f3.f2.length x0.f3.f2) (k5 : x0.f3.f2.length ≤ c5) (g6 : Kd.C Kd.string W A6 x0.f4.length x0.f4) (k6 : x0.f4.length ≤ c6) (g7 : Kd.C k28 W A7 x0.f5.length x0.f5) (k7 : x0.f5.length ≤ c7) :
    Calls Try.prog 5 #[.agg #[.int .i64 x0.f0, .string x0.f1, .int .i64 x0.f2, .int .i64 x0.f3.f0, .slice A4 x0.f3.f1.length c4, .slice A5 x0.f3.f2.length c5, .slice A6 x0.f4.length c6, .slice A7 x0.f5.length c7]] W fun e w' => e = .returned (.bool true) ∧ Below W.heap.size W w' := by
  have hs := szTerm_ev x0 hW0 1048576 (by omega) (by omega)
  by_cases hc : cut (wtTerm x0) 1048576 < 0
  · exact FnExactTablesIn_stop x0 (decide_eq_true hc) hs.rounds W g4 k4 g5 k5 g6 k6 g7 k7
  have hw : wtTerm x0 ≤ 1048576 := by
    have := (not_congr (cut_neg (n := wtTerm x0) (left := 1048576))).1 hc
    omega
  have sm := smTerm_of x0 hW0 hw
  have hn : ndTerm (cvTerm x0) ≤ 1048577 := by have := ndTerm_cv x0; omega
  have hl : (stb (cvTerm x0)).length ≤ 2097152 := by have := stb_len (cvTerm x0); omega
  have hcn : cnTerm (cvTerm x0) ≤ 4194308 := by have := cnTerm_cv x0; omega
  obtain ⟨h1, h2⟩ := TablesIn_same (cvTerm x0) sm hn
  exact FnExactTablesIn_walk x0 (decide_eq_false hc) (decide_eq_false (p := ((1 : Int) + ((stb (cvTerm x0)).length : Nat) < 0)) (by omega)) ⟨rfl⟩ ⟨hl⟩ ⟨by omega⟩ ⟨sm⟩ ⟨by omega⟩ hs.rounds (toTerm_ev x0 hw).rounds h2.rounds h1.rounds (eqStringS_ev2 _ hl).rounds (eqTerm_ev _ sm).rounds (heldStringS_ev _ hl 1 (by omega) (by omega)).rounds W g4 k4 g5 k5 g6 k6 g7 k7

end Go.Proofs.Ytfidfpmgoaainaa.Px
end
section
namespace Go.Proofs.Ytfidfpmgoaainaa.Rd
open Go.RowKit Go.Proofs.YtfidfpmgoaainaaW.PrintWords
set_option linter.unusedVariables false
/-- What reads as_ data of type t, by at most n steps, is of kind d and meets q. -/
def Op (P : Program) (n : Nat) (t : TypeId) {α : Type} (d : Kd α) (q : α → Prop) : Prop :=
  ∀ (H : Type) (enc : TypeId × Value → H) (w : World) (base : Nat) (spare : Nat → Bool) (held : Bool) (fuel : Nat) (cs : List Value) (x : DataW H × List MemPlace),
    fuel ≤ n → DataW.trod enc P w base spare held fuel t cs = some x → ∃ y, d.K w y cs ∧ q y
theorem Op.imp {P : Program} {n : Nat} {t : TypeId} {α : Type} {d d' : Kd α} {q q' : α → Prop} (h1 : ∀ w y cs, d.K w y cs → d'.K w y cs) (h2 : ∀ y, q y → q' y) (h : Op P n t d q) : Op P n t d' q' := by
  intro H enc w base spare held fuel cs x hf hx
  obtain ⟨y, hy, hq⟩ := h H enc w base spare held fuel cs x hf hx
  exact ⟨y, h1 _ _ _ hy, h2 _ hq⟩
theorem Op.iso {P : Program} {n : Nat} {t : TypeId} {α β : Type} {d : Kd α} {q : α → Prop} {f : β → α} (g : α → β) (hg : ∀ y, f (g y) = y) (h : Op P n t d q) : Op P n t (Kd.iso d f) (fun x => q (f x)) := by
  intro H enc w base spare held fuel cs x hf hx
  obtain ⟨y, hy, hq⟩ := h H enc w base spare held fuel cs x hf hx
  refine ⟨g y, ?_, ?_⟩
  · show d.K w (f (g y)) cs
    rw [hg]; exact hy
  · show q (f (g y))
    rw [hg]; exact hq
theorem Op.int {P : Program} {n : Nat} {t : TypeId} {k : IntKind} (ht : P.underlying t = some (.int k)) : Op P n t (Kd.int k) (fun x => (Lit.int k x).wf = true) := by
  intro H enc w base spare held fuel cs x hf hx
  obtain ⟨m, rfl, rfl, hw⟩ := DataW.trod_int ht hx
  exact ⟨m, rfl, hw⟩
theorem Op.bool {P : Program} {n : Nat} {t : TypeId} (ht : P.underlying t = some .bool) : Op P n t Kd.bool (fun _ => True) := by
  intro H enc w base spare held fuel cs x hf hx
  obtain ⟨m, rfl, rfl⟩ := DataW.trod_bool ht hx
  exact ⟨m, rfl, trivial⟩
theorem trod_string' {H : Type} {enc : TypeId × Value → H} {P : Program} {w : World} {base : Nat} {spare : Nat → Bool} {held : Bool} {fuel : Nat} {t : TypeId} {cs : List Value} {x : DataW H × List MemPlace}
    (ht : P.underlying t = some .string) (h : DataW.trod enc P w base spare held fuel t cs = some x) : ∃ s, cs = [.string s] ∧ s.size ≤ maxLen := by
  cases fuel with
  | zero => simp [DataW.trod] at h
  | succ n =>
    unfold DataW.trod at h
    rw [ht] at h
    split at h <;> simp_all
theorem Op.string {P : Program} {n : Nat} {t : TypeId} (ht : P.underlying t = some .string) : Op P n t Kd.string (fun s => s.size ≤ maxLen) := by
  intro H enc w base spare held fuel cs x hf hx
  obtain ⟨m, rfl, hm⟩ := trod_string' ht hx
  exact ⟨m, rfl, hm⟩
theorem add_add (a : Addr) (i j : Nat) : (a.add i).add j = a.add (i + j) := by
  unfold Addr.add
  by_cases h1 : i = 0 <;> by_cases h2 : j = 0 <;> simp [h1, h2, Nat.add_assoc]
theorem choose_list {α : Type} {p : Nat → α → Prop} (n : Nat) (h : ∀ i, i < n → ∃ y, p i y) : ∃ ys : List α, ys.length = n ∧ ∀ i y, ys[i]? = some y → p i y := by
  induction n with
  | zero => exact ⟨[], rfl, fun i y hy => by simp at hy⟩
  | succ n ih =>
    obtain ⟨ys, hl, hy⟩ := ih (fun i hi => h i (by omega))
    obtain ⟨z, hz⟩ := h n (by omega)
    refine ⟨ys ++ [z], by simp [hl], fun i y hi => ?_⟩
    by_cases hlt : i < n
    · rw [List.getElem?_append_left (by omega)] at hi
      exact hy i y hi
    · by_cases he : i = n
      · subst he
        rw [List.getElem?_append_right (by omega)] at hi
        simp [hl] at hi
        subst hi
        exact hz
      · rw [List.getElem?_eq_none (by simp; omega)] at hi
        cases hi
theorem Op.slice {P : Program} {n : Nat} {t e : TypeId} {α : Type} {d : Kd α} {q : α → Prop} (ht : P.underlying t = some (.slice e)) (hsz : P.cellsOf e = d.sz) (h : ∀ k, k < n → Op P k e d q) :
    Op P n t (Kd.slice e d) (fun xs => xs.length ≤ maxLen ∧ ∀ y ∈ xs, q y) := by
  intro H enc w base spare held fuel cs x hf hx
  rcases DataW.trod_slice ht hx with ⟨rfl, _⟩ | ⟨a, len, cap, elems, rest, m, hm, rfl, _, hb, hl, hc, hlen, hel, _, _⟩
  · exact ⟨[], ⟨none, 0, rfl, Nat.le_refl _, ⟨rfl, by simp, fun hp => absurd hp (by simp)⟩⟩, by simp, fun y hy => by simp at hy⟩
  · have hone : ∀ i, i < len → ∃ y, (∃ c, c.length = d.sz ∧ d.K w y c ∧ ∀ j u, c[j]? = some u → w.cell? (a.add (i * d.sz + j)) = some u) ∧ q y := by
      intro i hi
      have h1 := hel i hi
      rw [List.getElem?_eq_getElem (by omega)] at h1
      obtain ⟨c, hc1, hc2⟩ := Option.bind_eq_some_iff.1 h1
      obtain ⟨y, hy, hq⟩ := h m (by omega) H enc w base spare held m c _ (Nat.le_refl _) hc2
      obtain ⟨_, hcl, hcells⟩ := World.cells?_some hc1
      refine ⟨y, ⟨c, by omega, hy, fun j u hu => ?_⟩, hq⟩
      have hj : j < P.cellsOf e := by
        rw [← hcl]
        exact (List.getElem?_eq_some_iff.1 hu).1
      have := hcells j hj
      rw [add_add, hsz] at this
      rw [this, hu]
    obtain ⟨ys, hyl, hys⟩ := choose_list len hone
    have hmx : len ≤ 9223372036854775807 := by
      have : cap ≤ 9223372036854775807 := hc
      omega
    refine ⟨ys, ⟨some a, cap, by rw [hyl], by omega, ⟨rfl, by omega, fun _ => ⟨a, rfl, fun j p hj => (hys j p hj).1⟩⟩⟩, by rw [hyl]; exact hmx, fun y hy => ?_⟩
    obtain ⟨i, hi, rfl⟩ := List.getElem_of_mem hy
    exact (hys i _ (List.getElem?_eq_getElem hi)).2
/-- Fields, from an offset on. -/
def OpF (P : Program) (n : Nat) (fs : List Field) (off : Nat) {α : Type} (d : Kd α) (q : α → Prop) : Prop :=
  ∀ (H : Type) (enc : TypeId × Value → H) (w : World) (base : Nat) (spare : Nat → Bool) (held : Bool) (fuel : Nat) (cs : List Value), fuel ≤ n →
    (∀ f ∈ fs, ∃ x, DataW.trod enc P w base spare held fuel f.type ((cs.drop f.offset).take (P.cellsOf f.type)) = some x) → cs.length = off + d.sz → ∃ y, d.K w y (cs.drop off) ∧ q y
theorem OpF.one {P : Program} {n : Nat} {f : Field} {off : Nat} {α : Type} {d : Kd α} {q : α → Prop} (ho : f.offset = off) (hsz : P.cellsOf f.type = d.sz) (h : Op P n f.type d q) : OpF P n [f] off d q := by
  intro H enc w base spare held fuel cs hf hx hl
  obtain ⟨x, hx⟩ := hx f (List.mem_singleton.2 rfl)
  rw [ho, hsz, List.take_of_length_le (by rw [List.length_drop]; omega)] at hx
  exact h H enc w base spare held fuel _ x hf hx
theorem OpF.cons {P : Program} {n : Nat} {f : Field} {fs : List Field} {off : Nat} {α β : Type} {a : Kd α} {b : Kd β} {qa : α → Prop} {qb : β → Prop} (ho : f.offset = off) (hsz : P.cellsOf f.type = a.sz) (h : Op P n f.type a qa) (hr : OpF P n fs (off + a.sz) b qb) :
    OpF P n (f :: fs) off (Kd.pair a b) (fun y => qa y.1 ∧ qb y.2) := by
  intro H enc w base spare held fuel cs hf hx hl
  have hl' : cs.length = off + (a.sz + b.sz) := hl
  obtain ⟨x, h1⟩ := hx f (List.mem_cons_self ..)
  rw [ho, hsz] at h1
  obtain ⟨y, hy, hq⟩ := h H enc w base spare held fuel _ x hf h1
  obtain ⟨z, hz, hq2⟩ := hr H enc w base spare held fuel cs hf (fun g hg => hx g (List.mem_cons_of_mem _ hg)) (by omega)
  refine ⟨(y, z), ⟨_, _, ?_, hy, hz⟩, hq, hq2⟩
  rw [← List.drop_drop, List.take_append_drop]
theorem Op.struct {P : Program} {n : Nat} {t : TypeId} {fs : Array Field} {α : Type} {d : Kd α} {q : α → Prop} (ht : P.underlying t = some (.struct fs)) (hsz : P.cellsOf t = d.sz) (h : ∀ k, k < n → OpF P k fs.toList 0 d q) : Op P n t d q := by
  intro H enc w base spare held fuel cs x hf hx
  obtain ⟨xs, m, hm, _, hl, hxl, hfs⟩ := DataW.trod_struct ht hx
  have hr := h m (by omega) H enc w base spare held m cs (Nat.le_refl _) (fun f hfm => ?_) (by omega)
  · simpa using hr
  · obtain ⟨i, hi, rfl⟩ := List.getElem_of_mem hfm
    have hi' : i < fs.size := by simpa using hi
    have h2 := hfs i _ (Array.getElem?_eq_getElem hi')
    rw [List.getElem?_eq_getElem (by omega)] at h2
    exact ⟨_, by simpa using h2⟩
/-- The same at whatever fuel. -/
theorem Op.open_ {P : Program} {t : TypeId} {α : Type} {d : Kd α} {q : α → Prop} (h : ∀ n, Op P n t d q) {H : Type} {enc : TypeId × Value → H} {w : World} {base : Nat} {spare : Nat → Bool} {held : Bool} {v : Value} {x : DataW H} {ps : List MemPlace}
    (ht : DataW.Trod enc P w base spare held t v x ps) : ∃ y, d.K w y v.cells.toList ∧ q y := by
  obtain ⟨fuel, hf⟩ := ht
  exact h fuel H enc w base spare held fuel _ _ (Nat.le_refl _) hf
end Go.Proofs.Ytfidfpmgoaainaa.Rd
end
section
namespace Go.Proofs.Ytfidfpmgoaainaa.Px
open Go.RowKit Go.Proofs.Ytfidfpmgoaainaa.Ext Go.Proofs.YtfidfpmgoaainaaW.PrintWords Go.Proofs.YtfidfpmgoaainaaW.PrintLast Go.Proofs.YtfidfpmgoaainaaW.PrintMore Go.Proofs.Ytfidfpmgoaainaa
set_option linter.unusedVariables false
set_option linter.unusedSimpArgs false

theorem fold25 : ∀ (w : World) (x : S25) (cs : List Value), (F25 k25).K w x cs → k25.K w x cs := by
  intro w x cs h
  obtain ⟨_, _, rfl, rfl, ⟨_, _, rfl, ⟨A1, c1, rfl, l1, g1⟩, ⟨A2, c2, rfl, l2, g2⟩⟩⟩ := h
  exact k25_mk w x l1 g1 l2 g2
theorem op25 : ∀ n, Rd.Op Try.prog n 25 k25 W25 := by
  intro n
  induction n using Nat.strongRecOn with
  | _ n ih =>
  exact Rd.Op.imp (d := F25 k25) fold25 (fun x h => W25.mk h.1 h.2.1 h.2.2.1 h.2.2.2) (Rd.Op.iso (g := fun p => ⟨p.1, p.2.1, p.2.2⟩) (fun _ => rfl) (Rd.Op.struct Try.underlying25 (by kernel_rfl) (fun j0 hj0 => (Rd.OpF.cons rfl (by kernel_rfl) (Rd.Op.int Try.underlying3) (Rd.OpF.cons rfl (by kernel_rfl) (Rd.Op.slice Try.underlying22 (by kernel_rfl) (fun j1 hj1 => (Rd.Op.string Try.underlying9))) (Rd.OpF.one rfl (by kernel_rfl) (Rd.Op.slice Try.underlying23 (by kernel_rfl) (fun j1 hj1 => ih j1 (by omega)))))))))
theorem fold28 : ∀ (w : World) (x : S28) (cs : List Value), (F28 k28).K w x cs → k28.K w x cs := by
  intro w x cs h
  obtain ⟨_, _, rfl, rfl, ⟨_, _, rfl, rfl, ⟨_, _, rfl, rfl, ⟨_, _, rfl, s3, ⟨_, _, rfl, ⟨A4, c4, rfl, l4, g4⟩, ⟨A5, c5, rfl, l5, g5⟩⟩⟩⟩⟩⟩ := h
  obtain ⟨A3_1, c3_1, A3_2, c3_2, rfl, l3_1, g3_1, l3_2, g3_2⟩ := k25_open s3
  exact k28_mk w x l3_1 g3_1 l3_2 g3_2 l4 g4 l5 g5
theorem op28 : ∀ n, Rd.Op Try.prog n 28 k28 W28 := by
  intro n
  induction n using Nat.strongRecOn with
  | _ n ih =>
  exact Rd.Op.imp (d := F28 k28) fold28 (fun x h => W28.mk h.1 h.2.1 h.2.2.1 h.2.2.2.1 h.2.2.2.2.1 h.2.2.2.2.2.1 h.2.2.2.2.2.2) (Rd.Op.iso (g := fun p => ⟨p.1, p.2.1, p.2.2.1, p.2.2.2.1, p.2.2.2.2.1, p.2.2.2.2.2⟩) (fun _ => rfl) (Rd.Op.struct Try.underlying28 (by kernel_rfl) (fun j0 hj0 => (Rd.OpF.cons rfl (by kernel_rfl) (Rd.Op.int Try.underlying3) (Rd.OpF.cons rfl (by kernel_rfl) (Rd.Op.string Try.underlying9) (Rd.OpF.cons rfl (by kernel_rfl) (Rd.Op.int Try.underlying3) (Rd.OpF.cons rfl (by kernel_rfl) (op25 _) (Rd.OpF.cons rfl (by kernel_rfl) (Rd.Op.slice Try.underlying22 (by kernel_rfl) (fun j1 hj1 => (Rd.Op.string Try.underlying9))) (Rd.OpF.one rfl (by kernel_rfl) (Rd.Op.slice Try.underlying26 (by kernel_rfl) (fun j1 hj1 => ih j1 (by omega))))))))))))
end Go.Proofs.Ytfidfpmgoaainaa.Px
end
