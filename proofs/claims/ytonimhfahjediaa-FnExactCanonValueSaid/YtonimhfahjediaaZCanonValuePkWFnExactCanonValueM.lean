/- The walk of the law FnExactCanonValue: what it does, by what its functions come to. -/
import Derived.Test.YtonimhfahjediaaZCanonValueWTabM
import Derived.Test.YtonimhfahjediaaZCanonValuePk11M
import Derived.Test.YtonimhfahjediaaZCanonValuePk3M
import Derived.Test.YtonimhfahjediaaZCanonValuePk6M
import Derived.Test.YtonimhfahjediaaZCanonValuePk9M
import Derived.Test.YtonimhfahjediaaZCanonValuePlM
import Derived.Test.YtonimhfahjediaaZCanonValuePkMarkValueM
import Derived.Test.YtonimhfahjediaaZCanonValueWLastM
import Derived.Test.YtonimhfahjediaaZCanonValueWWords
import Derived.Deep.Slices
import Derived.ChangeArms
import Derived.DataReads
section
namespace Go.Proofs.Ytonimhfahjediaa.Pk
open Go.RowKit Go.Proofs.YtonimhfahjediaaW.PrintWords Go.Proofs.YtonimhfahjediaaW.PrintLast Go.Proofs.YtonimhfahjediaaW.PrintMore Go.Proofs.Ytonimhfahjediaa.Pl Go.Proofs.Ytonimhfahjediaa.Ext
set_option linter.unusedVariables false
set_option linter.unusedSimpArgs false
set_option maxHeartbeats 8000000 in
set_option maxRecDepth 100000 in
theorem FnExactCanonValue_walk (x0 : S25) (y0 : S30) (r : S30) (left0 : Int) (m0 : Int) (m1 : Int)
    (p0 : ∃ k, laws_szValue.f k (x0.f0) (x0.f1) (x0.f2) (x0.f3) 1048576 = some left0)
    (p1 : decide (left0 < 0) = false)
    (p2 : ∃ k, laws_toValue.f k (x0.f0) (x0.f1) (x0.f2) (x0.f3) = some (y0.f0, y0.f1, y0.f2, y0.f3))
    (p3 : ∃ k, spec_CanonValue.f k (y0.f0) (y0.f1) (y0.f2) (y0.f3) = some (r.f0, r.f1, r.f2, r.f3))
    (p4 : ∃ k, impl_CanonValue.f k (y0.f0) (y0.f1) (y0.f2) (y0.f3) = some (r.f0, r.f1, r.f2, r.f3))
    (p5 : ∃ k, laws_eqValue.f k (r.f0) (r.f1) (r.f2) (r.f3) (r.f0) (r.f1) (r.f2) (r.f3) = some true)
    (p6 : ∃ k, laws_eqValue.f k (y0.f0) (y0.f1) (y0.f2) (y0.f3) (y0.f0) (y0.f1) (y0.f2) (y0.f3) = some true)
    (p7 : y0.f2.length ≤ 1048576)
    (p8 : MarksValueS y0.f3)
    (p9 : (1 + (y0.f2.length : Nat) + (cnValueS y0.f3 : Nat) : Int) ≤ 4611686018427387000)
    (p10 : m0 = 1 + (y0.f2.length : Nat) + (cnValueS y0.f3 : Nat))
    (p11 : decide (m0 < 0) = false)
    (p12 : r.f2.length ≤ 1048576)
    (p13 : MarksValueS r.f3)
    (p14 : (1 + (r.f2.length : Nat) + (cnValueS r.f3 : Nat) : Int) ≤ 4611686018427387000)
    (p15 : m1 = 1 + (r.f2.length : Nat) + (cnValueS r.f3 : Nat))
    (p16 : decide (m1 < 0) = false)
    (p17 : ∃ k, laws_heldValue.f k (r.f0) (r.f1) (mtS (1) r.f2.length) (mkValueS r.f3 (1 + (r.f2.length : Nat))) 1 = some m1)
    (W : World) {A0f2 : Option Addr} {c0f2 : Nat} (hHA0f2 : Kd.C Kd.string W A0f2 x0.f2.length x0.f2) (kHA0f2 : x0.f2.length ≤ c0f2) {A0f3 : Option Addr} {c0f3 : Nat} (hHA0f3 : Kd.C k25 W A0f3 x0.f3.length x0.f3) (kHA0f3 : x0.f3.length ≤ c0f3) :
    Calls Try.prog 5 #[.agg #[.int .i64 x0.f0, .int .i64 x0.f1, .slice A0f2 x0.f2.length c0f2, .slice A0f3 x0.f3.length c0f3]] W fun e w' => e = .returned (.bool true) ∧ Below W.heap.size W w' := by
  have HA0f2 := Aside0.mk hHA0f2
  clear hHA0f2
  have HA0f3 := Aside0.mk hHA0f3
  clear hHA0f3
  have Hp10 := Aside0.mk p10
  clear p10
  have Hp15 := Aside0.mk p15
  clear p15
  have HB := Aside0.mk (Below.refl W.heap.size W)
  have HZ := Aside0.mk (Nat.le_refl W.heap.size)
  have HZ0 := Aside0.mk (Nat.le_refl W.heap.size)
  go_enter Try.func5, Try.ntmps5
  go_wp2_with (first
    | ((with_reducible refine gate_dst (N := 1) rfl ?_)
       refine box_event ?hg (N := 1) ?hd (cs := #[.int .i64 x0.f0, .int .i64 x0.f1, .slice A0f2 x0.f2.length c0f2, .slice A0f3 x0.f3.length c0f3]) (t := 25) ?hr ?_; (case hd => rfl); (case hg => rfl); (case hr => first | (go_simp; done) | (go_simp; rfl))
       intro gb1 hg w1 hbox hb
       have Lgb1 := Aside0.mk (show W.heap.size ≤ gb1 by rw [hg]; exact HZ.out)
       have n1 := below_step HB.out hb
       have n2 := Nat.le_trans HZ.out hb.size
       clear HB HZ
       have HB := Aside0.mk n1
       have HZ := Aside0.mk n2
       clear n1 n2
       have BK1 := Aside0.mk hbox
       replace HZ := Aside0.mk (show gb1 + 1 ≤ w1.heap.size from blk_lt hbox)
       clear hbox hb hg
       have hx1_0 : w1.cell? ⟨gb1, 0, none⟩ = some (.int .i64 x0.f0) := (blk_cell BK1.out 0).trans rfl
       have hx1_1 : w1.cell? ⟨gb1, 1, none⟩ = some (.int .i64 x0.f1) := (blk_cell BK1.out 1).trans rfl
       have hx1_2 : w1.cell? ⟨gb1, 2, none⟩ = some (.slice A0f2 x0.f2.length c0f2) := (blk_cell BK1.out 2).trans rfl
       have hx1_3 : w1.cell? ⟨gb1, 3, none⟩ = some (.slice A0f3 x0.f3.length c0f3) := (blk_cell BK1.out 3).trans rfl)
    | ((with_reducible refine gate_callee (f := 6) rfl ?_)
       refine goesL_ (some 13) rfl rfl Try.func6 (by kernel_rfl) rfl #[.agg #[.int .i64 x0.f0, .int .i64 x0.f1, .slice A0f2 x0.f2.length c0f2, .slice A0f3 x0.f3.length c0f3], .int .i64 1048576] rfl (by (try simp only [List.map_toArray, List.map_cons, List.map_nil]); first | done | rfl) ?_
       have hh := p0
       obtain ⟨kq3, eq3⟩ := hh
       (with_reducible refine (laws_szValue.calls kq3 (x0.f0) (x0.f1) _ _ (x0.f2) _ _ (x0.f3) 1048576 left0 _ (Kd.C_below HA0f2.out HB.out) kHA0f2 (Kd.C_below HA0f3.out HB.out) kHA0f3 eq3).mono ?_)
       rintro e w2 ⟨rfl, hb⟩
       (try replace hb := Drawn0.below hb)
       refine ⟨_, rfl, ?_⟩
       clear hx1_0 hx1_1 hx1_2 hx1_3
       have n1 := blk_below BK1.out hb
       have n2 := below_step HB.out hb
       have n3 := Nat.le_trans HZ.out hb.size
       clear BK1 HB HZ
       have BK1 := Aside0.mk n1
       have HB := Aside0.mk n2
       have HZ := Aside0.mk n3
       clear n1 n2 n3
       clear hb
       have hx1_0 : w2.cell? ⟨gb1, 0, none⟩ = some (.int .i64 x0.f0) := (blk_cell BK1.out 0).trans rfl
       have hx1_1 : w2.cell? ⟨gb1, 1, none⟩ = some (.int .i64 x0.f1) := (blk_cell BK1.out 1).trans rfl
       have hx1_2 : w2.cell? ⟨gb1, 2, none⟩ = some (.slice A0f2 x0.f2.length c0f2) := (blk_cell BK1.out 2).trans rfl
       have hx1_3 : w2.cell? ⟨gb1, 3, none⟩ = some (.slice A0f3 x0.f3.length c0f3) := (blk_cell BK1.out 3).trans rfl)
    | ((with_reducible refine gate_callee (f := 8) rfl ?_)
       refine goesL_ (some 17) rfl rfl Try.func8 (by kernel_rfl) rfl #[.agg #[.int .i64 x0.f0, .int .i64 x0.f1, .slice A0f2 x0.f2.length c0f2, .slice A0f3 x0.f3.length c0f3]] rfl (by (try simp only [List.map_toArray, List.map_cons, List.map_nil]); first | done | rfl) ?_
       have hh := p2
       obtain ⟨kq5, eq5⟩ := hh
       (with_reducible refine (laws_toValue.calls kq5 (x0.f0) (x0.f1) _ _ (x0.f2) _ _ (x0.f3) (y0.f0) (y0.f1) (y0.f2) (y0.f3) _ (Kd.C_below HA0f2.out HB.out) kHA0f2 (Kd.C_below HA0f3.out HB.out) kHA0f3 eq5).mono ?_)
       rintro e w4 ⟨u0, u1, rfl, ho0, ho1, hb⟩
       refine ⟨_, rfl, ?_⟩
       clear hx1_0 hx1_1 hx1_2 hx1_3
       obtain ⟨n7, en7⟩ : ∃ n, n = w2.heap.size := ⟨_, rfl⟩
       obtain ⟨n8, en8⟩ : ∃ n, n = w4.heap.size := ⟨_, rfl⟩
       have En7 := Aside0.mk en7; have En8 := Aside0.mk en8
       clear en7 en8
       have Hq6f2 := Aside0.mk (Ow.R_iv (base := W.heap.size) ho0 En7.out En8.out (by have := HZ.out; have := Lgb1.out; have := En7.out; omega))
       clear ho0
       obtain ⟨Aq6f2, cq6f2, ea⟩ := Kd.R_slice Hq6f2.out
       subst ea
       have Hq6f3 := Aside0.mk (Ow.S_iv (base := W.heap.size) ho1 En7.out En8.out (by have := HZ.out; have := Lgb1.out; have := En7.out; omega))
       clear ho1
       obtain ⟨Aq6f3, cq6f3, ea⟩ := Kd.S_slice Hq6f3.out
       subst ea
       have Ln7 := Aside0.mk (show (gb1 + 1) ≤ n7 ∧ n7 ≤ n8 by have := HZ.out; have := hb.size; have := En7.out; have := En8.out; omega)
       have n1 := blk_below BK1.out hb
       have n2 := below_step HB.out hb
       have n3 := Nat.le_trans HZ.out hb.size
       clear BK1 HB HZ
       have BK1 := Aside0.mk n1
       have HB := Aside0.mk n2
       have HZ := Aside0.mk n3
       clear n1 n2 n3
       replace HZ := Aside0.mk (show n8 ≤ w4.heap.size by have := En8.out; omega)
       clear hb)
    | ((with_reducible refine gate_callee (f := 13) rfl ?_)
       refine goesL_ (some 18) rfl rfl Try.func13 (by kernel_rfl) rfl #[.agg #[.int .i64 y0.f0, .int .i64 y0.f1, .slice Aq6f2 y0.f2.length cq6f2, .slice Aq6f3 y0.f3.length cq6f3]] rfl (by (try simp only [List.map_toArray, List.map_cons, List.map_nil]); first | done | rfl) ?_
       have hh := p3
       obtain ⟨kq10, eq10⟩ := hh
       (with_reducible refine (spec_CanonValue.calls kq10 (y0.f0) (y0.f1) _ _ (y0.f2) _ _ (y0.f3) (r.f0) (r.f1) (r.f2) (r.f3) _ (Kd.R_reads' Hq6f2.out).2.2 (Kd.R_reads' Hq6f2.out).2.1 (Kd.S_reads' Hq6f3.out).2.2 (Kd.S_reads' Hq6f3.out).2.1 eq10).mono ?_)
       rintro e w9 ⟨u0, u1, rfl, ho0, ho1, hb⟩
       refine ⟨_, rfl, ?_⟩
       obtain ⟨n12, en12⟩ : ∃ n, n = w4.heap.size := ⟨_, rfl⟩
       obtain ⟨n13, en13⟩ : ∃ n, n = w9.heap.size := ⟨_, rfl⟩
       have En12 := Aside0.mk en12; have En13 := Aside0.mk en13
       clear en12 en13
       have Hq11f2 := Aside0.mk (Ow.R_iv (base := W.heap.size) ho0 En12.out En13.out (by have := HZ.out; have := Lgb1.out; have := Ln7.out; have := En12.out; omega))
       clear ho0
       obtain ⟨Aq11f2, cq11f2, ea⟩ := Kd.R_slice Hq11f2.out
       subst ea
       have Hq11f3 := Aside0.mk (Ow.S_iv (base := W.heap.size) ho1 En12.out En13.out (by have := HZ.out; have := Lgb1.out; have := Ln7.out; have := En12.out; omega))
       clear ho1
       obtain ⟨Aq11f3, cq11f3, ea⟩ := Kd.S_slice Hq11f3.out
       subst ea
       have Ln12 := Aside0.mk (show n8 ≤ n12 ∧ n12 ≤ n13 by have := HZ.out; have := hb.size; have := En12.out; have := En13.out; omega)
       have n1 := Kd.R_below Hq6f2.out hb
       have n2 := Kd.S_below Hq6f3.out hb
       have n3 := blk_below BK1.out hb
       have n4 := below_step HB.out hb
       have n5 := Nat.le_trans HZ.out hb.size
       clear Hq6f2 Hq6f3 BK1 HB HZ
       have Hq6f2 := Aside0.mk n1
       have Hq6f3 := Aside0.mk n2
       have BK1 := Aside0.mk n3
       have HB := Aside0.mk n4
       have HZ := Aside0.mk n5
       clear n1 n2 n3 n4 n5
       replace HZ := Aside0.mk (show n13 ≤ w9.heap.size by have := En13.out; omega)
       clear hb)
    | ((with_reducible refine gate_dst (N := 4) rfl ?_)
       refine box_event ?hg (N := 4) ?hd (cs := #[.int .i64 0, .int .i64 0, .slice none 0 0, .slice none 0 0]) (t := 30) ?hr ?_; (case hd => rfl); (case hg => rfl); (case hr => first | (go_simp; done) | (go_simp; rfl))
       intro gb4 hg w14 hbox hbA
       have HBA := Aside0.mk hbA; have HGA := Aside0.mk hg; have HXA := Aside0.mk hbox
       clear hbA hg hbox
       have hx4_0 : w14.cell? ⟨gb4, 0, none⟩ = some (.int .i64 0) := (blk_cell HXA.out 0).trans rfl
       have hx4_1 : w14.cell? ⟨gb4, 1, none⟩ = some (.int .i64 0) := (blk_cell HXA.out 1).trans rfl
       have hx4_2 : w14.cell? ⟨gb4, 2, none⟩ = some (.slice none 0 0) := (blk_cell HXA.out 2).trans rfl
       have hx4_3 : w14.cell? ⟨gb4, 3, none⟩ = some (.slice none 0 0) := (blk_cell HXA.out 3).trans rfl
       have hf4_0 := blk_frozen HXA.out 0
       have hf4_1 := blk_frozen HXA.out 1
       have hf4_2 := blk_frozen HXA.out 2
       have hf4_3 := blk_frozen HXA.out 3)
    | ((with_reducible refine gate_store (t := 30) (p := 4) rfl ?_)
       refine store_event (t := 30) (p := 4) (v := ?vo_w15) (w1 := ((((w14.setCell ⟨gb4, 0, none⟩ (.int .i64 r.f0)).setCell ⟨gb4, 1, none⟩ (.int .i64 r.f1)).setCell ⟨gb4, 2, none⟩ (.slice Aq11f2 r.f2.length cq11f2)).setCell ⟨gb4, 3, none⟩ (.slice Aq11f3 r.f3.length cq11f3))) ?hg ?ho ?hn ?hr ?_; (case ho => rfl); (case hg => rfl); (case hn => rfl); (case hr => first | (go_simp; done) | (go_simp; rfl)); intro w15 hw
       have hb : Below w9.heap.size w9 w15 := by rw [hw]; exact below_set (below_set (below_set (below_set (HBA.out) (Nat.le_of_eq HGA.out.symm)) (Nat.le_of_eq HGA.out.symm)) (Nat.le_of_eq HGA.out.symm)) (Nat.le_of_eq HGA.out.symm)
       have hbox : w15.heap[gb4]? = some (.cells #[.int .i64 r.f0, .int .i64 r.f1, .slice Aq11f2 r.f2.length cq11f2, .slice Aq11f3 r.f3.length cq11f3] 30 (0, 0)) := by rw [hw]; exact blk_put (cs := #[.int .i64 r.f0, .int .i64 r.f1, .slice Aq11f2 r.f2.length cq11f2, .slice none 0 0]) (blk_put (cs := #[.int .i64 r.f0, .int .i64 r.f1, .slice none 0 0, .slice none 0 0]) (blk_put (cs := #[.int .i64 r.f0, .int .i64 0, .slice none 0 0, .slice none 0 0]) (blk_put (cs := #[.int .i64 0, .int .i64 0, .slice none 0 0, .slice none 0 0]) (HXA.out) 0 (.int .i64 r.f0) rfl) 1 (.int .i64 r.f1) rfl) 2 (.slice Aq11f2 r.f2.length cq11f2) rfl) 3 (.slice Aq11f3 r.f3.length cq11f3) rfl
       have Lgb4 := Aside0.mk (show n13 ≤ gb4 by rw [HGA.out]; exact HZ.out)
       clear hw HBA HGA HXA hx4_0 hf4_0 hx4_1 hf4_1 hx4_2 hf4_2 hx4_3 hf4_3
       have n1 := Kd.R_below Hq11f2.out hb
       have n2 := Kd.S_below Hq11f3.out hb
       have n3 := blk_below BK1.out hb
       have n4 := below_step HB.out hb
       have n5 := Nat.le_trans HZ.out hb.size
       clear Hq11f2 Hq11f3 BK1 HB HZ
       have Hq11f2 := Aside0.mk n1
       have Hq11f3 := Aside0.mk n2
       have BK1 := Aside0.mk n3
       have HB := Aside0.mk n4
       have HZ := Aside0.mk n5
       clear n1 n2 n3 n4 n5
       have BK4 := Aside0.mk hbox
       replace HZ := Aside0.mk (show gb4 + 1 ≤ w15.heap.size from blk_lt hbox)
       clear hbox hb
       have hx1_0 : w15.cell? ⟨gb1, 0, none⟩ = some (.int .i64 x0.f0) := (blk_cell BK1.out 0).trans rfl
       have hx1_1 : w15.cell? ⟨gb1, 1, none⟩ = some (.int .i64 x0.f1) := (blk_cell BK1.out 1).trans rfl
       have hx1_2 : w15.cell? ⟨gb1, 2, none⟩ = some (.slice A0f2 x0.f2.length c0f2) := (blk_cell BK1.out 2).trans rfl
       have hx1_3 : w15.cell? ⟨gb1, 3, none⟩ = some (.slice A0f3 x0.f3.length c0f3) := (blk_cell BK1.out 3).trans rfl)
    | ((with_reducible refine gate_callee (f := 8) rfl ?_)
       refine goesL_ (some 20) rfl rfl Try.func8 (by kernel_rfl) rfl #[.agg #[.int .i64 x0.f0, .int .i64 x0.f1, .slice A0f2 x0.f2.length c0f2, .slice A0f3 x0.f3.length c0f3]] rfl (by (try simp only [List.map_toArray, List.map_cons, List.map_nil]); first | done | rfl) ?_
       have hh := p2
       obtain ⟨kq17, eq17⟩ := hh
       (with_reducible refine (laws_toValue.calls kq17 (x0.f0) (x0.f1) _ _ (x0.f2) _ _ (x0.f3) (y0.f0) (y0.f1) (y0.f2) (y0.f3) _ (Kd.C_below HA0f2.out HB.out) kHA0f2 (Kd.C_below HA0f3.out HB.out) kHA0f3 eq17).mono ?_)
       rintro e w16 ⟨u0, u1, rfl, ho0, ho1, hb⟩
       refine ⟨_, rfl, ?_⟩
       clear hx1_0 hx1_1 hx1_2 hx1_3
       obtain ⟨n19, en19⟩ : ∃ n, n = w15.heap.size := ⟨_, rfl⟩
       obtain ⟨n20, en20⟩ : ∃ n, n = w16.heap.size := ⟨_, rfl⟩
       have En19 := Aside0.mk en19; have En20 := Aside0.mk en20
       clear en19 en20
       have Hq18f2 := Aside0.mk (Ow.R_iv (base := W.heap.size) ho0 En19.out En20.out (by have := HZ.out; have := Lgb1.out; have := Ln7.out; have := Ln12.out; have := Lgb4.out; have := En19.out; omega))
       clear ho0
       obtain ⟨Aq18f2, cq18f2, ea⟩ := Kd.R_slice Hq18f2.out
       subst ea
       have Hq18f3 := Aside0.mk (Ow.S_iv (base := W.heap.size) ho1 En19.out En20.out (by have := HZ.out; have := Lgb1.out; have := Ln7.out; have := Ln12.out; have := Lgb4.out; have := En19.out; omega))
       clear ho1
       obtain ⟨Aq18f3, cq18f3, ea⟩ := Kd.S_slice Hq18f3.out
       subst ea
       have Ln19 := Aside0.mk (show (gb4 + 1) ≤ n19 ∧ n19 ≤ n20 by have := HZ.out; have := hb.size; have := En19.out; have := En20.out; omega)
       have n1 := Kd.R_below Hq11f2.out hb
       have n2 := Kd.S_below Hq11f3.out hb
       have n3 := blk_below BK1.out hb
       have n4 := blk_below BK4.out hb
       have n5 := below_step HB.out hb
       have n6 := Nat.le_trans HZ.out hb.size
       clear Hq11f2 Hq11f3 BK1 BK4 HB HZ
       have Hq11f2 := Aside0.mk n1
       have Hq11f3 := Aside0.mk n2
       have BK1 := Aside0.mk n3
       have BK4 := Aside0.mk n4
       have HB := Aside0.mk n5
       have HZ := Aside0.mk n6
       clear n1 n2 n3 n4 n5 n6
       replace HZ := Aside0.mk (show n20 ≤ w16.heap.size by have := En20.out; omega)
       clear hb)
    | ((with_reducible refine gate_dst (N := 5) rfl ?_)
       refine box_event ?hg (N := 5) ?hd (cs := #[.int .i64 0, .int .i64 0, .slice none 0 0, .slice none 0 0]) (t := 30) ?hr ?_; (case hd => rfl); (case hg => rfl); (case hr => first | (go_simp; done) | (go_simp; rfl))
       intro gb5 hg w21 hbox hbA
       have HBA := Aside0.mk hbA; have HGA := Aside0.mk hg; have HXA := Aside0.mk hbox
       clear hbA hg hbox
       have hx5_0 : w21.cell? ⟨gb5, 0, none⟩ = some (.int .i64 0) := (blk_cell HXA.out 0).trans rfl
       have hx5_1 : w21.cell? ⟨gb5, 1, none⟩ = some (.int .i64 0) := (blk_cell HXA.out 1).trans rfl
       have hx5_2 : w21.cell? ⟨gb5, 2, none⟩ = some (.slice none 0 0) := (blk_cell HXA.out 2).trans rfl
       have hx5_3 : w21.cell? ⟨gb5, 3, none⟩ = some (.slice none 0 0) := (blk_cell HXA.out 3).trans rfl
       have hf5_0 := blk_frozen HXA.out 0
       have hf5_1 := blk_frozen HXA.out 1
       have hf5_2 := blk_frozen HXA.out 2
       have hf5_3 := blk_frozen HXA.out 3)
    | ((with_reducible refine gate_store (t := 30) (p := 5) rfl ?_)
       refine store_event (t := 30) (p := 5) (v := ?vo_w22) (w1 := ((((w21.setCell ⟨gb5, 0, none⟩ (.int .i64 y0.f0)).setCell ⟨gb5, 1, none⟩ (.int .i64 y0.f1)).setCell ⟨gb5, 2, none⟩ (.slice Aq18f2 y0.f2.length cq18f2)).setCell ⟨gb5, 3, none⟩ (.slice Aq18f3 y0.f3.length cq18f3))) ?hg ?ho ?hn ?hr ?_; (case ho => rfl); (case hg => rfl); (case hn => rfl); (case hr => first | (go_simp; done) | (go_simp; rfl)); intro w22 hw
       have hb : Below w16.heap.size w16 w22 := by rw [hw]; exact below_set (below_set (below_set (below_set (HBA.out) (Nat.le_of_eq HGA.out.symm)) (Nat.le_of_eq HGA.out.symm)) (Nat.le_of_eq HGA.out.symm)) (Nat.le_of_eq HGA.out.symm)
       have hbox : w22.heap[gb5]? = some (.cells #[.int .i64 y0.f0, .int .i64 y0.f1, .slice Aq18f2 y0.f2.length cq18f2, .slice Aq18f3 y0.f3.length cq18f3] 30 (0, 0)) := by rw [hw]; exact blk_put (cs := #[.int .i64 y0.f0, .int .i64 y0.f1, .slice Aq18f2 y0.f2.length cq18f2, .slice none 0 0]) (blk_put (cs := #[.int .i64 y0.f0, .int .i64 y0.f1, .slice none 0 0, .slice none 0 0]) (blk_put (cs := #[.int .i64 y0.f0, .int .i64 0, .slice none 0 0, .slice none 0 0]) (blk_put (cs := #[.int .i64 0, .int .i64 0, .slice none 0 0, .slice none 0 0]) (HXA.out) 0 (.int .i64 y0.f0) rfl) 1 (.int .i64 y0.f1) rfl) 2 (.slice Aq18f2 y0.f2.length cq18f2) rfl) 3 (.slice Aq18f3 y0.f3.length cq18f3) rfl
       have Lgb5 := Aside0.mk (show n20 ≤ gb5 by rw [HGA.out]; exact HZ.out)
       clear hw HBA HGA HXA hx5_0 hf5_0 hx5_1 hf5_1 hx5_2 hf5_2 hx5_3 hf5_3
       have n1 := Kd.R_below Hq11f2.out hb
       have n2 := Kd.S_below Hq11f3.out hb
       have n3 := Kd.R_below Hq18f2.out hb
       have n4 := Kd.S_below Hq18f3.out hb
       have n5 := blk_below BK1.out hb
       have n6 := blk_below BK4.out hb
       have n7 := below_step HB.out hb
       have n8 := Nat.le_trans HZ.out hb.size
       clear Hq11f2 Hq11f3 Hq18f2 Hq18f3 BK1 BK4 HB HZ
       have Hq11f2 := Aside0.mk n1
       have Hq11f3 := Aside0.mk n2
       have Hq18f2 := Aside0.mk n3
       have Hq18f3 := Aside0.mk n4
       have BK1 := Aside0.mk n5
       have BK4 := Aside0.mk n6
       have HB := Aside0.mk n7
       have HZ := Aside0.mk n8
       clear n1 n2 n3 n4 n5 n6 n7 n8
       have BK5 := Aside0.mk hbox
       replace HZ := Aside0.mk (show gb5 + 1 ≤ w22.heap.size from blk_lt hbox)
       clear hbox hb
       have hx5_0 : w22.cell? ⟨gb5, 0, none⟩ = some (.int .i64 y0.f0) := (blk_cell BK5.out 0).trans rfl
       have hx5_1 : w22.cell? ⟨gb5, 1, none⟩ = some (.int .i64 y0.f1) := (blk_cell BK5.out 1).trans rfl
       have hx5_2 : w22.cell? ⟨gb5, 2, none⟩ = some (.slice Aq18f2 y0.f2.length cq18f2) := (blk_cell BK5.out 2).trans rfl
       have hx5_3 : w22.cell? ⟨gb5, 3, none⟩ = some (.slice Aq18f3 y0.f3.length cq18f3) := (blk_cell BK5.out 3).trans rfl)
    | ((with_reducible refine gate_callee (f := 14) rfl ?_)
       refine goesL_ (some 22) rfl rfl Try.func14 (by kernel_rfl) rfl #[.agg #[.int .i64 y0.f0, .int .i64 y0.f1, .slice Aq18f2 y0.f2.length cq18f2, .slice Aq18f3 y0.f3.length cq18f3]] rfl (by (try simp only [List.map_toArray, List.map_cons, List.map_nil]); first | done | rfl) ?_
       have hh := p4
       obtain ⟨kq24, eq24⟩ := hh
       (with_reducible refine (impl_CanonValue.calls kq24 (y0.f0) (y0.f1) _ _ (y0.f2) _ _ (y0.f3) (r.f0) (r.f1) (r.f2) (r.f3) _ (Kd.R_reads' Hq18f2.out).2.2 (Kd.R_reads' Hq18f2.out).2.1 (Kd.S_reads' Hq18f3.out).2.2 (Kd.S_reads' Hq18f3.out).2.1 eq24).mono ?_)
       rintro e w23 ⟨u0, u1, rfl, ho0, ho1, hb⟩
       refine ⟨_, rfl, ?_⟩
       clear hx5_0 hx5_1 hx5_2 hx5_3
       obtain ⟨n26, en26⟩ : ∃ n, n = w22.heap.size := ⟨_, rfl⟩
       obtain ⟨n27, en27⟩ : ∃ n, n = w23.heap.size := ⟨_, rfl⟩
       have En26 := Aside0.mk en26; have En27 := Aside0.mk en27
       clear en26 en27
       have Hq25f2 := Aside0.mk (Ow.R_iv (base := W.heap.size) ho0 En26.out En27.out (by have := HZ.out; have := Lgb1.out; have := Ln7.out; have := Ln12.out; have := Lgb4.out; have := Ln19.out; have := Lgb5.out; have := En26.out; omega))
       clear ho0
       obtain ⟨Aq25f2, cq25f2, ea⟩ := Kd.R_slice Hq25f2.out
       subst ea
       have Hq25f3 := Aside0.mk (Ow.S_iv (base := W.heap.size) ho1 En26.out En27.out (by have := HZ.out; have := Lgb1.out; have := Ln7.out; have := Ln12.out; have := Lgb4.out; have := Ln19.out; have := Lgb5.out; have := En26.out; omega))
       clear ho1
       obtain ⟨Aq25f3, cq25f3, ea⟩ := Kd.S_slice Hq25f3.out
       subst ea
       have Ln26 := Aside0.mk (show (gb5 + 1) ≤ n26 ∧ n26 ≤ n27 by have := HZ.out; have := hb.size; have := En26.out; have := En27.out; omega)
       have n1 := Kd.R_below Hq11f2.out hb
       have n2 := Kd.S_below Hq11f3.out hb
       have n3 := Kd.R_below Hq18f2.out hb
       have n4 := Kd.S_below Hq18f3.out hb
       have n5 := blk_below BK1.out hb
       have n6 := blk_below BK4.out hb
       have n7 := blk_below BK5.out hb
       have n8 := below_step HB.out hb
       have n9 := Nat.le_trans HZ.out hb.size
       clear Hq11f2 Hq11f3 Hq18f2 Hq18f3 BK1 BK4 BK5 HB HZ
       have Hq11f2 := Aside0.mk n1
       have Hq11f3 := Aside0.mk n2
       have Hq18f2 := Aside0.mk n3
       have Hq18f3 := Aside0.mk n4
       have BK1 := Aside0.mk n5
       have BK4 := Aside0.mk n6
       have BK5 := Aside0.mk n7
       have HB := Aside0.mk n8
       have HZ := Aside0.mk n9
       clear n1 n2 n3 n4 n5 n6 n7 n8 n9
       replace HZ := Aside0.mk (show n27 ≤ w23.heap.size by have := En27.out; omega)
       clear hb)
    | ((with_reducible refine gate_dst (N := 6) rfl ?_)
       refine box_event ?hg (N := 6) ?hd (cs := #[.int .i64 0, .int .i64 0, .slice none 0 0, .slice none 0 0]) (t := 30) ?hr ?_; (case hd => rfl); (case hg => rfl); (case hr => first | (go_simp; done) | (go_simp; rfl))
       intro gb6 hg w28 hbox hbA
       have HBA := Aside0.mk hbA; have HGA := Aside0.mk hg; have HXA := Aside0.mk hbox
       clear hbA hg hbox
       have hx6_0 : w28.cell? ⟨gb6, 0, none⟩ = some (.int .i64 0) := (blk_cell HXA.out 0).trans rfl
       have hx6_1 : w28.cell? ⟨gb6, 1, none⟩ = some (.int .i64 0) := (blk_cell HXA.out 1).trans rfl
       have hx6_2 : w28.cell? ⟨gb6, 2, none⟩ = some (.slice none 0 0) := (blk_cell HXA.out 2).trans rfl
       have hx6_3 : w28.cell? ⟨gb6, 3, none⟩ = some (.slice none 0 0) := (blk_cell HXA.out 3).trans rfl
       have hf6_0 := blk_frozen HXA.out 0
       have hf6_1 := blk_frozen HXA.out 1
       have hf6_2 := blk_frozen HXA.out 2
       have hf6_3 := blk_frozen HXA.out 3)
    | ((with_reducible refine gate_store (t := 30) (p := 6) rfl ?_)
       refine store_event (t := 30) (p := 6) (v := ?vo_w29) (w1 := ((((w28.setCell ⟨gb6, 0, none⟩ (.int .i64 r.f0)).setCell ⟨gb6, 1, none⟩ (.int .i64 r.f1)).setCell ⟨gb6, 2, none⟩ (.slice Aq25f2 r.f2.length cq25f2)).setCell ⟨gb6, 3, none⟩ (.slice Aq25f3 r.f3.length cq25f3))) ?hg ?ho ?hn ?hr ?_; (case ho => rfl); (case hg => rfl); (case hn => rfl); (case hr => first | (go_simp; done) | (go_simp; rfl)); intro w29 hw
       have hb : Below w23.heap.size w23 w29 := by rw [hw]; exact below_set (below_set (below_set (below_set (HBA.out) (Nat.le_of_eq HGA.out.symm)) (Nat.le_of_eq HGA.out.symm)) (Nat.le_of_eq HGA.out.symm)) (Nat.le_of_eq HGA.out.symm)
       have hbox : w29.heap[gb6]? = some (.cells #[.int .i64 r.f0, .int .i64 r.f1, .slice Aq25f2 r.f2.length cq25f2, .slice Aq25f3 r.f3.length cq25f3] 30 (0, 0)) := by rw [hw]; exact blk_put (cs := #[.int .i64 r.f0, .int .i64 r.f1, .slice Aq25f2 r.f2.length cq25f2, .slice none 0 0]) (blk_put (cs := #[.int .i64 r.f0, .int .i64 r.f1, .slice none 0 0, .slice none 0 0]) (blk_put (cs := #[.int .i64 r.f0, .int .i64 0, .slice none 0 0, .slice none 0 0]) (blk_put (cs := #[.int .i64 0, .int .i64 0, .slice none 0 0, .slice none 0 0]) (HXA.out) 0 (.int .i64 r.f0) rfl) 1 (.int .i64 r.f1) rfl) 2 (.slice Aq25f2 r.f2.length cq25f2) rfl) 3 (.slice Aq25f3 r.f3.length cq25f3) rfl
       have Lgb6 := Aside0.mk (show n27 ≤ gb6 by rw [HGA.out]; exact HZ.out)
       clear hw HBA HGA HXA hx6_0 hf6_0 hx6_1 hf6_1 hx6_2 hf6_2 hx6_3 hf6_3
       have n1 := Kd.R_below Hq11f2.out hb
       have n2 := Kd.S_below Hq11f3.out hb
       have n3 := Kd.R_below Hq18f2.out hb
       have n4 := Kd.S_below Hq18f3.out hb
       have n5 := Kd.R_below Hq25f2.out hb
       have n6 := Kd.S_below Hq25f3.out hb
       have n7 := blk_below BK1.out hb
       have n8 := blk_below BK4.out hb
       have n9 := blk_below BK5.out hb
       have n10 := below_step HB.out hb
       have n11 := Nat.le_trans HZ.out hb.size
       clear Hq11f2 Hq11f3 Hq18f2 Hq18f3 Hq25f2 Hq25f3 BK1 BK4 BK5 HB HZ
       have Hq11f2 := Aside0.mk n1
       have Hq11f3 := Aside0.mk n2
       have Hq18f2 := Aside0.mk n3
       have Hq18f3 := Aside0.mk n4
       have Hq25f2 := Aside0.mk n5
       have Hq25f3 := Aside0.mk n6
       have BK1 := Aside0.mk n7
       have BK4 := Aside0.mk n8
       have BK5 := Aside0.mk n9
       have HB := Aside0.mk n10
       have HZ := Aside0.mk n11
       clear n1 n2 n3 n4 n5 n6 n7 n8 n9 n10 n11
       have BK6 := Aside0.mk hbox
       replace HZ := Aside0.mk (show gb6 + 1 ≤ w29.heap.size from blk_lt hbox)
       clear hbox hb
       have hx6_0 : w29.cell? ⟨gb6, 0, none⟩ = some (.int .i64 r.f0) := (blk_cell BK6.out 0).trans rfl
       have hx6_1 : w29.cell? ⟨gb6, 1, none⟩ = some (.int .i64 r.f1) := (blk_cell BK6.out 1).trans rfl
       have hx6_2 : w29.cell? ⟨gb6, 2, none⟩ = some (.slice Aq25f2 r.f2.length cq25f2) := (blk_cell BK6.out 2).trans rfl
       have hx6_3 : w29.cell? ⟨gb6, 3, none⟩ = some (.slice Aq25f3 r.f3.length cq25f3) := (blk_cell BK6.out 3).trans rfl
       have hx4_0 : w29.cell? ⟨gb4, 0, none⟩ = some (.int .i64 r.f0) := (blk_cell BK4.out 0).trans rfl
       have hx4_1 : w29.cell? ⟨gb4, 1, none⟩ = some (.int .i64 r.f1) := (blk_cell BK4.out 1).trans rfl
       have hx4_2 : w29.cell? ⟨gb4, 2, none⟩ = some (.slice Aq11f2 r.f2.length cq11f2) := (blk_cell BK4.out 2).trans rfl
       have hx4_3 : w29.cell? ⟨gb4, 3, none⟩ = some (.slice Aq11f3 r.f3.length cq11f3) := (blk_cell BK4.out 3).trans rfl)
    | ((with_reducible refine gate_callee (f := 10) rfl ?_)
       refine goesL_ (some 25) rfl rfl Try.func10 (by kernel_rfl) rfl #[.agg #[.int .i64 r.f0, .int .i64 r.f1, .slice Aq25f2 r.f2.length cq25f2, .slice Aq25f3 r.f3.length cq25f3], .agg #[.int .i64 r.f0, .int .i64 r.f1, .slice Aq11f2 r.f2.length cq11f2, .slice Aq11f3 r.f3.length cq11f3]] rfl (by (try simp only [List.map_toArray, List.map_cons, List.map_nil]); first | done | rfl) ?_
       have hh := p5
       obtain ⟨kq31, eq31⟩ := hh
       (with_reducible refine (laws_eqValue.calls kq31 (r.f0) (r.f1) _ _ (r.f2) _ _ (r.f3) (r.f0) (r.f1) _ _ (r.f2) _ _ (r.f3) true _ (Kd.R_reads' Hq25f2.out).2.2 (Kd.R_reads' Hq25f2.out).2.1 (Kd.S_reads' Hq25f3.out).2.2 (Kd.S_reads' Hq25f3.out).2.1 (Kd.R_reads' Hq11f2.out).2.2 (Kd.R_reads' Hq11f2.out).2.1 (Kd.S_reads' Hq11f3.out).2.2 (Kd.S_reads' Hq11f3.out).2.1 eq31).mono ?_)
       rintro e w30 ⟨rfl, hb⟩
       (try replace hb := Drawn0.below hb)
       refine ⟨_, rfl, ?_⟩
       clear hx6_0 hx6_1 hx6_2 hx6_3 hx4_0 hx4_1 hx4_2 hx4_3
       have n1 := Kd.R_below Hq11f2.out hb
       have n2 := Kd.S_below Hq11f3.out hb
       have n3 := Kd.R_below Hq18f2.out hb
       have n4 := Kd.S_below Hq18f3.out hb
       have n5 := Kd.R_below Hq25f2.out hb
       have n6 := Kd.S_below Hq25f3.out hb
       have n7 := blk_below BK1.out hb
       have n8 := blk_below BK4.out hb
       have n9 := blk_below BK5.out hb
       have n10 := blk_below BK6.out hb
       have n11 := below_step HB.out hb
       have n12 := Nat.le_trans HZ.out hb.size
       clear Hq11f2 Hq11f3 Hq18f2 Hq18f3 Hq25f2 Hq25f3 BK1 BK4 BK5 BK6 HB HZ
       have Hq11f2 := Aside0.mk n1
       have Hq11f3 := Aside0.mk n2
       have Hq18f2 := Aside0.mk n3
       have Hq18f3 := Aside0.mk n4
       have Hq25f2 := Aside0.mk n5
       have Hq25f3 := Aside0.mk n6
       have BK1 := Aside0.mk n7
       have BK4 := Aside0.mk n8
       have BK5 := Aside0.mk n9
       have BK6 := Aside0.mk n10
       have HB := Aside0.mk n11
       have HZ := Aside0.mk n12
       clear n1 n2 n3 n4 n5 n6 n7 n8 n9 n10 n11 n12
       clear hb
       have hx5_0 : w30.cell? ⟨gb5, 0, none⟩ = some (.int .i64 y0.f0) := (blk_cell BK5.out 0).trans rfl
       have hx5_1 : w30.cell? ⟨gb5, 1, none⟩ = some (.int .i64 y0.f1) := (blk_cell BK5.out 1).trans rfl
       have hx5_2 : w30.cell? ⟨gb5, 2, none⟩ = some (.slice Aq18f2 y0.f2.length cq18f2) := (blk_cell BK5.out 2).trans rfl
       have hx5_3 : w30.cell? ⟨gb5, 3, none⟩ = some (.slice Aq18f3 y0.f3.length cq18f3) := (blk_cell BK5.out 3).trans rfl
       have hx1_0 : w30.cell? ⟨gb1, 0, none⟩ = some (.int .i64 x0.f0) := (blk_cell BK1.out 0).trans rfl
       have hx1_1 : w30.cell? ⟨gb1, 1, none⟩ = some (.int .i64 x0.f1) := (blk_cell BK1.out 1).trans rfl
       have hx1_2 : w30.cell? ⟨gb1, 2, none⟩ = some (.slice A0f2 x0.f2.length c0f2) := (blk_cell BK1.out 2).trans rfl
       have hx1_3 : w30.cell? ⟨gb1, 3, none⟩ = some (.slice A0f3 x0.f3.length c0f3) := (blk_cell BK1.out 3).trans rfl))
  replace Hq11f2 := Aside0.mk (Kd.R_drew Hq11f2.out)
  replace Hq11f3 := Aside0.mk (Kd.S_drew Hq11f3.out)
  replace Hq18f2 := Aside0.mk (Kd.R_drew Hq18f2.out)
  replace Hq18f3 := Aside0.mk (Kd.S_drew Hq18f3.out)
  replace Hq25f2 := Aside0.mk (Kd.R_drew Hq25f2.out)
  replace Hq25f3 := Aside0.mk (Kd.S_drew Hq25f3.out)
  replace BK1 := Aside0.mk (blk_drew BK1.out)
  replace BK4 := Aside0.mk (blk_drew BK4.out)
  replace BK5 := Aside0.mk (blk_drew BK5.out)
  replace BK6 := Aside0.mk (blk_drew BK6.out)
  replace HB := Aside0.mk (below_drew1 HB.out)
  replace HZ : Aside0 ((gb6 + 1) ≤ w30.drew.heap.size) := HZ
  refine start_ (n := 5) (S := fun w' => w'.cell? ⟨gb5, 0, none⟩ = some (.int .i64 y0.f0) ∧ w'.cell? ⟨gb5, 1, none⟩ = some (.int .i64 y0.f1) ∧ w'.cell? ⟨gb5, 2, none⟩ = some (.slice Aq18f2 y0.f2.length cq18f2) ∧ w'.cell? ⟨gb5, 3, none⟩ = some (.slice Aq18f3 y0.f3.length cq18f3) ∧ w'.cell? ⟨gb1, 0, none⟩ = some (.int .i64 x0.f0) ∧ w'.cell? ⟨gb1, 1, none⟩ = some (.int .i64 x0.f1) ∧ w'.cell? ⟨gb1, 2, none⟩ = some (.slice A0f2 x0.f2.length c0f2) ∧ w'.cell? ⟨gb1, 3, none⟩ = some (.slice A0f3 x0.f3.length c0f3)) (ds := []) #[false, false, false, false, false] (by kernel_rfl) rfl rfl ⟨(blk_cell BK5.out 0).trans rfl, (blk_cell BK5.out 1).trans rfl, (blk_cell BK5.out 2).trans rfl, (blk_cell BK5.out 3).trans rfl, (blk_cell BK1.out 0).trans rfl, (blk_cell BK1.out 1).trans rfl, (blk_cell BK1.out 2).trans rfl, (blk_cell BK1.out 3).trans rfl⟩ (fun hHeld => ?_)
  generalize w30.drew = w32 at Hq11f2 Hq11f3 Hq18f2 Hq18f3 Hq25f2 Hq25f3 BK1 BK4 BK5 BK6 HB HZ hHeld ⊢
  refine take_ (i := 0) (N := some 27) (v := ?_) (a' := ?_) #[true, false, false, false, false] rfl rfl (by kernel_rfl) (fun _ _ _ h => h) (Or.inl ⟨by rfl, ?_⟩) hHeld ?_ ?_
  rotate_left
  · rintro w' ⟨s0, s1, s2, s3, s4, s5, s6, s7⟩
    go_simp
    with_reducible rfl
  rotate_left
  · simp only [Act.put, List.setIfInBounds_toArray, List.set_cons_zero, List.set_cons_succ, i64_w, i32_w]
    rfl
  refine take_ (i := 1) (N := some 28) (v := ?_) (a' := ?_) #[true, true, false, false, false] rfl rfl (by kernel_rfl) (fun _ _ _ h => h) (Or.inl ⟨by rfl, ?_⟩) hHeld ?_ ?_
  rotate_left
  · rintro w' ⟨s0, s1, s2, s3, s4, s5, s6, s7⟩
    go_simp
    with_reducible rfl
  rotate_left
  · simp only [Act.put, List.setIfInBounds_toArray, List.set_cons_zero, List.set_cons_succ, i64_w, i32_w]
    rfl
  have hh := p2
  obtain ⟨kq33, eq33⟩ := hh
  have Eq33 := Aside0.mk eq33
  clear eq33
  refine one_ (i := 2) (N := some 29) #[true, true, true, false, false] rfl rfl (by kernel_rfl) (by decide) (fun K hK => ?_)
  refine goes_ Try.func8 (by kernel_rfl) rfl #[.agg #[.int .i64 x0.f0, .int .i64 x0.f1, .slice A0f2 x0.f2.length c0f2, .slice A0f3 x0.f3.length c0f3]] (by rfl) rfl rfl (by (try simp only [List.map_toArray, List.map_cons, List.map_nil]); first | done | rfl) ?_
  with_reducible refine (laws_toValue.calls kq33 (x0.f0) (x0.f1) _ _ (x0.f2) _ _ (x0.f3) (y0.f0) (y0.f1) (y0.f2) (y0.f3) _ (Kd.C_below HA0f2.out HB.out) kHA0f2 (Kd.C_below HA0f3.out HB.out) kHA0f3 Eq33.out).mono ?_
  rintro e w36 ⟨u0, u1, rfl, ho0, ho1, hb⟩
  refine ⟨_, rfl, ?_⟩
  obtain ⟨n34, en34⟩ : ∃ n, n = w32.heap.size := ⟨_, rfl⟩
  obtain ⟨n35, en35⟩ : ∃ n, n = w36.heap.size := ⟨_, rfl⟩
  have En34 := Aside0.mk en34; have En35 := Aside0.mk en35
  clear en34 en35
  have Hq33f2 := Aside0.mk (Ow.R_iv (base := W.heap.size) ho0 En34.out En35.out (by have := HZ.out; have := Lgb1.out; have := Ln7.out; have := Ln12.out; have := Lgb4.out; have := Ln19.out; have := Lgb5.out; have := Ln26.out; have := Lgb6.out; have := En34.out; omega))
  clear ho0
  obtain ⟨Aq33f2, cq33f2, ea⟩ := Kd.R_slice Hq33f2.out
  subst ea
  have Hq33f3 := Aside0.mk (Ow.S_iv (base := W.heap.size) ho1 En34.out En35.out (by have := HZ.out; have := Lgb1.out; have := Ln7.out; have := Ln12.out; have := Lgb4.out; have := Ln19.out; have := Lgb5.out; have := Ln26.out; have := Lgb6.out; have := En34.out; omega))
  clear ho1
  obtain ⟨Aq33f3, cq33f3, ea⟩ := Kd.S_slice Hq33f3.out
  subst ea
  have Ln34 := Aside0.mk (show (gb6 + 1) ≤ n34 ∧ n34 ≤ n35 by have := HZ.out; have := hb.size; have := En34.out; have := En35.out; omega)
  have n1 := Kd.R_below Hq11f2.out hb
  have n2 := Kd.S_below Hq11f3.out hb
  have n3 := Kd.R_below Hq18f2.out hb
  have n4 := Kd.S_below Hq18f3.out hb
  have n5 := Kd.R_below Hq25f2.out hb
  have n6 := Kd.S_below Hq25f3.out hb
  have n7 := blk_below BK1.out hb
  have n8 := blk_below BK4.out hb
  have n9 := blk_below BK5.out hb
  have n10 := blk_below BK6.out hb
  have n11 := below_step HB.out hb
  have n12 := Nat.le_trans HZ.out hb.size
  clear Hq11f2 Hq11f3 Hq18f2 Hq18f3 Hq25f2 Hq25f3 BK1 BK4 BK5 BK6 HB HZ
  have Hq11f2 := Aside0.mk n1
  have Hq11f3 := Aside0.mk n2
  have Hq18f2 := Aside0.mk n3
  have Hq18f3 := Aside0.mk n4
  have Hq25f2 := Aside0.mk n5
  have Hq25f3 := Aside0.mk n6
  have BK1 := Aside0.mk n7
  have BK4 := Aside0.mk n8
  have BK5 := Aside0.mk n9
  have BK6 := Aside0.mk n10
  have HB := Aside0.mk n11
  have HZ := Aside0.mk n12
  clear n1 n2 n3 n4 n5 n6 n7 n8 n9 n10 n11 n12
  replace HZ := Aside0.mk (show n35 ≤ w36.heap.size by have := En35.out; omega)
  clear hb
  refine hK.out _ _ ⟨(blk_cell BK5.out 0).trans rfl, (blk_cell BK5.out 1).trans rfl, (blk_cell BK5.out 2).trans rfl, (blk_cell BK5.out 3).trans rfl, (blk_cell BK1.out 0).trans rfl, (blk_cell BK1.out 1).trans rfl, (blk_cell BK1.out 2).trans rfl, (blk_cell BK1.out 3).trans rfl⟩ (fun hHeld => ?_)
  clear hK K
  refine norm_ (a' := ?_) ?_ ?_
  rotate_left
  · show Act.put _ (some 29) _ = _
    simp only [Act.put, List.setIfInBounds_toArray, List.set_cons_zero, List.set_cons_succ, i64_w, i32_w]
    rfl
  have hh := p6
  obtain ⟨kq38, eq38⟩ := hh
  have Eq38 := Aside0.mk eq38
  clear eq38
  refine one_ (i := 3) (N := some 30) #[true, true, true, true, false] rfl rfl (by kernel_rfl) (by decide) (fun K hK => ?_)
  refine goes_ Try.func10 (by kernel_rfl) rfl #[.agg #[.int .i64 y0.f0, .int .i64 y0.f1, .slice Aq18f2 y0.f2.length cq18f2, .slice Aq18f3 y0.f3.length cq18f3], .agg #[.int .i64 y0.f0, .int .i64 y0.f1, .slice Aq33f2 y0.f2.length cq33f2, .slice Aq33f3 y0.f3.length cq33f3]] (by rfl) rfl rfl (by (try simp only [List.map_toArray, List.map_cons, List.map_nil]); first | done | rfl) ?_
  with_reducible refine (laws_eqValue.calls kq38 (y0.f0) (y0.f1) _ _ (y0.f2) _ _ (y0.f3) (y0.f0) (y0.f1) _ _ (y0.f2) _ _ (y0.f3) true _ (Kd.R_reads' Hq18f2.out).2.2 (Kd.R_reads' Hq18f2.out).2.1 (Kd.S_reads' Hq18f3.out).2.2 (Kd.S_reads' Hq18f3.out).2.1 (Kd.R_reads' Hq33f2.out).2.2 (Kd.R_reads' Hq33f2.out).2.1 (Kd.S_reads' Hq33f3.out).2.2 (Kd.S_reads' Hq33f3.out).2.1 Eq38.out).mono ?_
  rintro e w37 ⟨rfl, hb⟩
  refine ⟨_, rfl, ?_⟩
  have n1 := Kd.R_below Hq11f2.out hb
  have n2 := Kd.S_below Hq11f3.out hb
  have n3 := Kd.R_below Hq18f2.out hb
  have n4 := Kd.S_below Hq18f3.out hb
  have n5 := Kd.R_below Hq25f2.out hb
  have n6 := Kd.S_below Hq25f3.out hb
  have n7 := blk_below BK1.out hb
  have n8 := blk_below BK4.out hb
  have n9 := blk_below BK5.out hb
  have n10 := blk_below BK6.out hb
  have n11 := below_step HB.out hb
  have n12 := Nat.le_trans HZ.out hb.size
  clear Hq11f2 Hq11f3 Hq18f2 Hq18f3 Hq25f2 Hq25f3 BK1 BK4 BK5 BK6 HB HZ
  have Hq11f2 := Aside0.mk n1
  have Hq11f3 := Aside0.mk n2
  have Hq18f2 := Aside0.mk n3
  have Hq18f3 := Aside0.mk n4
  have Hq25f2 := Aside0.mk n5
  have Hq25f3 := Aside0.mk n6
  have BK1 := Aside0.mk n7
  have BK4 := Aside0.mk n8
  have BK5 := Aside0.mk n9
  have BK6 := Aside0.mk n10
  have HB := Aside0.mk n11
  have HZ := Aside0.mk n12
  clear n1 n2 n3 n4 n5 n6 n7 n8 n9 n10 n11 n12
  clear hb
  refine hK.out _ _ ⟨(blk_cell BK5.out 0).trans rfl, (blk_cell BK5.out 1).trans rfl, (blk_cell BK5.out 2).trans rfl, (blk_cell BK5.out 3).trans rfl, (blk_cell BK1.out 0).trans rfl, (blk_cell BK1.out 1).trans rfl, (blk_cell BK1.out 2).trans rfl, (blk_cell BK1.out 3).trans rfl⟩ (fun hHeld => ?_)
  clear hK K
  refine norm_ (a' := ?_) ?_ ?_
  rotate_left
  · show Act.put _ (some 30) _ = _
    simp only [Act.put, List.setIfInBounds_toArray, List.set_cons_zero, List.set_cons_succ, i64_w, i32_w]
    rfl
  refine pure_ (i := 4) (N := some 31) (v := ?_) (a' := ?_) #[true, true, true, true, true] rfl rfl (by kernel_rfl) (fun _ _ _ h => h) (Or.inl ⟨by rfl, ?_⟩) ?_ ?_
  rotate_left
  · intro w'
    go_simp
    with_reducible rfl
  rotate_left
  · simp only [Act.put, List.setIfInBounds_toArray, List.set_cons_zero, List.set_cons_succ, i64_w, i32_w]
    rfl
  refine done_ (by kernel_rfl) ?_
  clear hHeld
  have hx5_0 : w37.cell? ⟨gb5, 0, none⟩ = some (.int .i64 y0.f0) := (blk_cell BK5.out 0).trans rfl
  have hx5_1 : w37.cell? ⟨gb5, 1, none⟩ = some (.int .i64 y0.f1) := (blk_cell BK5.out 1).trans rfl
  have hx5_2 : w37.cell? ⟨gb5, 2, none⟩ = some (.slice Aq18f2 y0.f2.length cq18f2) := (blk_cell BK5.out 2).trans rfl
  have hx5_3 : w37.cell? ⟨gb5, 3, none⟩ = some (.slice Aq18f3 y0.f3.length cq18f3) := (blk_cell BK5.out 3).trans rfl
  go_wp2_with (first
    | ((with_reducible refine gate_callee (f := 15) rfl ?_)
       refine goesL_ (some 34) rfl rfl Try.func15 (by kernel_rfl) rfl #[.agg #[.int .i64 y0.f0, .int .i64 y0.f1, .slice Aq18f2 y0.f2.length cq18f2, .slice Aq18f3 y0.f3.length cq18f3], .int .i64 1] rfl (by (try simp only [List.map_toArray, List.map_cons, List.map_nil]); first | done | rfl) ?_
       have hd_ : ∀ k, (fun k => some k = (.slice Aq18f2 y0.f2.length cq18f2 : Value).ownBlock ∧ True ∧ n19 ≤ k ∧ k < n20) k → ¬ (fun k => (some k ≠ (.slice Aq18f2 y0.f2.length cq18f2 : Value).ownBlock) ∧ n19 ≤ k ∧ k < n20) k := fun k h1 h2 => h2.1 h1.1
       (with_reducible refine (markValue_own y0 p7 p8 1 (by decide) p9 _ _ (fun k => some k = (.slice Aq18f2 y0.f2.length cq18f2 : Value).ownBlock ∧ True ∧ n19 ≤ k ∧ k < n20) (fun k => (some k ≠ (.slice Aq18f2 y0.f2.length cq18f2 : Value).ownBlock) ∧ n19 ≤ k ∧ k < n20) W _ HB.out (Kd.R_mono (Kd.R_tight2 rfl Hq18f2.out) (fun k hk => hk)) Hq18f3.out (fun k hk => by have := HZ.out; have := Lgb1.out; have := Ln7.out; have := Ln12.out; have := Lgb4.out; have := Ln19.out; have := Lgb5.out; have := Ln26.out; have := Lgb6.out; have := Ln34.out; have := hk.2; omega) (fun k hk => by have := HZ.out; have := Lgb1.out; have := Ln7.out; have := Ln12.out; have := Lgb4.out; have := Ln19.out; have := Lgb5.out; have := Ln26.out; have := Lgb6.out; have := Ln34.out; have := hk.2; omega) hd_).mono ?_)
       rintro e w39 ⟨he, hr0, hr1, hb2, hk⟩
       obtain rfl : e = .returned (.int .i64 m0) := by rw [he, Hp10.out]
       clear he
       clear hd_
       refine ⟨_, rfl, ?_⟩
       clear hx5_0 hx5_1 hx5_2 hx5_3
       clear Hq18f2 Hq18f3
       have n1 := Kd.R_kept Hq11f2.out hk (fun k hk h1 => by have := Lgb1.out; have := Ln7.out; have := Ln12.out; have := Lgb4.out; have := Ln19.out; have := Lgb5.out; have := Ln26.out; have := Lgb6.out; have := Ln34.out; have := hk.2; rcases h1 with h1 | h1 <;> have := h1.2 <;> omega)
       have n2 := Kd.S_kept Hq11f3.out hk (fun k hk h1 => by have := Lgb1.out; have := Ln7.out; have := Ln12.out; have := Lgb4.out; have := Ln19.out; have := Lgb5.out; have := Ln26.out; have := Lgb6.out; have := Ln34.out; have := hk.2; rcases h1 with h1 | h1 <;> have := h1.2 <;> omega)
       have n3 := Kd.R_kept Hq25f2.out hk (fun k hk h1 => by have := Lgb1.out; have := Ln7.out; have := Ln12.out; have := Lgb4.out; have := Ln19.out; have := Lgb5.out; have := Ln26.out; have := Lgb6.out; have := Ln34.out; have := hk.2; rcases h1 with h1 | h1 <;> have := h1.2 <;> omega)
       have n4 := Kd.S_kept Hq25f3.out hk (fun k hk h1 => by have := Lgb1.out; have := Ln7.out; have := Ln12.out; have := Lgb4.out; have := Ln19.out; have := Lgb5.out; have := Ln26.out; have := Lgb6.out; have := Ln34.out; have := hk.2; rcases h1 with h1 | h1 <;> have := h1.2 <;> omega)
       have n5 := blk_kept BK1.out hk (fun h1 => by have := Lgb1.out; have := Ln7.out; have := Ln12.out; have := Lgb4.out; have := Ln19.out; have := Lgb5.out; have := Ln26.out; have := Lgb6.out; have := Ln34.out; rcases h1 with h1 | h1 <;> have := h1.2 <;> omega)
       have n6 := blk_kept BK4.out hk (fun h1 => by have := Lgb1.out; have := Ln7.out; have := Ln12.out; have := Lgb4.out; have := Ln19.out; have := Lgb5.out; have := Ln26.out; have := Lgb6.out; have := Ln34.out; rcases h1 with h1 | h1 <;> have := h1.2 <;> omega)
       have n7 := blk_kept BK5.out hk (fun h1 => by have := Lgb1.out; have := Ln7.out; have := Ln12.out; have := Lgb4.out; have := Ln19.out; have := Lgb5.out; have := Ln26.out; have := Lgb6.out; have := Ln34.out; rcases h1 with h1 | h1 <;> have := h1.2 <;> omega)
       have n8 := blk_kept BK6.out hk (fun h1 => by have := Lgb1.out; have := Ln7.out; have := Ln12.out; have := Lgb4.out; have := Ln19.out; have := Lgb5.out; have := Ln26.out; have := Lgb6.out; have := Ln34.out; rcases h1 with h1 | h1 <;> have := h1.2 <;> omega)
       have n9 := Nat.le_trans HZ.out hk.1
       clear Hq11f2 Hq11f3 Hq25f2 Hq25f3 BK1 BK4 BK5 BK6 HZ
       have Hq11f2 := Aside0.mk n1
       have Hq11f3 := Aside0.mk n2
       have Hq25f2 := Aside0.mk n3
       have Hq25f3 := Aside0.mk n4
       have BK1 := Aside0.mk n5
       have BK4 := Aside0.mk n6
       have BK5 := Aside0.mk n7
       have BK6 := Aside0.mk n8
       have HZ := Aside0.mk n9
       clear n1 n2 n3 n4 n5 n6 n7 n8 n9
       have n1 := hb2; clear HB; have HB := Aside0.mk n1; clear n1
       have Hq18f2 := Aside0.mk hr0
       have Hq18f3 := Aside0.mk hr1
       clear hb2 hk hr0 hr1
       have hx6_0 : w39.cell? ⟨gb6, 0, none⟩ = some (.int .i64 r.f0) := (blk_cell BK6.out 0).trans rfl
       have hx6_1 : w39.cell? ⟨gb6, 1, none⟩ = some (.int .i64 r.f1) := (blk_cell BK6.out 1).trans rfl
       have hx6_2 : w39.cell? ⟨gb6, 2, none⟩ = some (.slice Aq25f2 r.f2.length cq25f2) := (blk_cell BK6.out 2).trans rfl
       have hx6_3 : w39.cell? ⟨gb6, 3, none⟩ = some (.slice Aq25f3 r.f3.length cq25f3) := (blk_cell BK6.out 3).trans rfl
       have hx4_0 : w39.cell? ⟨gb4, 0, none⟩ = some (.int .i64 r.f0) := (blk_cell BK4.out 0).trans rfl
       have hx4_1 : w39.cell? ⟨gb4, 1, none⟩ = some (.int .i64 r.f1) := (blk_cell BK4.out 1).trans rfl
       have hx4_2 : w39.cell? ⟨gb4, 2, none⟩ = some (.slice Aq11f2 r.f2.length cq11f2) := (blk_cell BK4.out 2).trans rfl
       have hx4_3 : w39.cell? ⟨gb4, 3, none⟩ = some (.slice Aq11f3 r.f3.length cq11f3) := (blk_cell BK4.out 3).trans rfl)
    | (go_at_call 10
       have hh := p5
       obtain ⟨kq42, eq42⟩ := hh
       (with_reducible refine (laws_eqValue.calls kq42 (r.f0) (r.f1) _ _ (r.f2) _ _ (r.f3) (r.f0) (r.f1) _ _ (r.f2) _ _ (r.f3) true _ (Kd.R_reads' Hq25f2.out).2.2 (Kd.R_reads' Hq25f2.out).2.1 (Kd.S_reads' Hq25f3.out).2.2 (Kd.S_reads' Hq25f3.out).2.1 (Kd.R_reads' Hq11f2.out).2.2 (Kd.R_reads' Hq11f2.out).2.1 (Kd.S_reads' Hq11f3.out).2.2 (Kd.S_reads' Hq11f3.out).2.1 eq42).mono ?_)
       rintro e w41 ⟨rfl, hb⟩
       (try replace hb := Drawn0.below hb)
       clear hx6_0 hx6_1 hx6_2 hx6_3 hx4_0 hx4_1 hx4_2 hx4_3
       have n1 := Kd.R_below Hq11f2.out hb
       have n2 := Kd.S_below Hq11f3.out hb
       have n3 := Kd.R_below Hq18f2.out hb
       have n4 := Kd.S_below Hq18f3.out hb
       have n5 := Kd.R_below Hq25f2.out hb
       have n6 := Kd.S_below Hq25f3.out hb
       have n7 := blk_below BK1.out hb
       have n8 := blk_below BK4.out hb
       have n9 := blk_below BK5.out hb
       have n10 := blk_below BK6.out hb
       have n11 := below_step HB.out hb
       have n12 := Nat.le_trans HZ.out hb.size
       clear Hq11f2 Hq11f3 Hq18f2 Hq18f3 Hq25f2 Hq25f3 BK1 BK4 BK5 BK6 HB HZ
       have Hq11f2 := Aside0.mk n1
       have Hq11f3 := Aside0.mk n2
       have Hq18f2 := Aside0.mk n3
       have Hq18f3 := Aside0.mk n4
       have Hq25f2 := Aside0.mk n5
       have Hq25f3 := Aside0.mk n6
       have BK1 := Aside0.mk n7
       have BK4 := Aside0.mk n8
       have BK5 := Aside0.mk n9
       have BK6 := Aside0.mk n10
       have HB := Aside0.mk n11
       have HZ := Aside0.mk n12
       clear n1 n2 n3 n4 n5 n6 n7 n8 n9 n10 n11 n12
       clear hb
       have hx6_0 : w41.cell? ⟨gb6, 0, none⟩ = some (.int .i64 r.f0) := (blk_cell BK6.out 0).trans rfl
       have hx6_1 : w41.cell? ⟨gb6, 1, none⟩ = some (.int .i64 r.f1) := (blk_cell BK6.out 1).trans rfl
       have hx6_2 : w41.cell? ⟨gb6, 2, none⟩ = some (.slice Aq25f2 r.f2.length cq25f2) := (blk_cell BK6.out 2).trans rfl
       have hx6_3 : w41.cell? ⟨gb6, 3, none⟩ = some (.slice Aq25f3 r.f3.length cq25f3) := (blk_cell BK6.out 3).trans rfl)
    | ((with_reducible refine gate_callee (f := 15) rfl ?_)
       refine goesL_ (some 45) rfl rfl Try.func15 (by kernel_rfl) rfl #[.agg #[.int .i64 r.f0, .int .i64 r.f1, .slice Aq25f2 r.f2.length cq25f2, .slice Aq25f3 r.f3.length cq25f3], .int .i64 1] rfl (by (try simp only [List.map_toArray, List.map_cons, List.map_nil]); first | done | rfl) ?_
       have hd_ : ∀ k, (fun k => some k = (.slice Aq25f2 r.f2.length cq25f2 : Value).ownBlock ∧ True ∧ n26 ≤ k ∧ k < n27) k → ¬ (fun k => (some k ≠ (.slice Aq25f2 r.f2.length cq25f2 : Value).ownBlock) ∧ n26 ≤ k ∧ k < n27) k := fun k h1 h2 => h2.1 h1.1
       (with_reducible refine (markValue_own r p12 p13 1 (by decide) p14 _ _ (fun k => some k = (.slice Aq25f2 r.f2.length cq25f2 : Value).ownBlock ∧ True ∧ n26 ≤ k ∧ k < n27) (fun k => (some k ≠ (.slice Aq25f2 r.f2.length cq25f2 : Value).ownBlock) ∧ n26 ≤ k ∧ k < n27) W _ HB.out (Kd.R_mono (Kd.R_tight2 rfl Hq25f2.out) (fun k hk => hk)) Hq25f3.out (fun k hk => by have := HZ.out; have := Lgb1.out; have := Ln7.out; have := Ln12.out; have := Lgb4.out; have := Ln19.out; have := Lgb5.out; have := Ln26.out; have := Lgb6.out; have := Ln34.out; have := hk.2; omega) (fun k hk => by have := HZ.out; have := Lgb1.out; have := Ln7.out; have := Ln12.out; have := Lgb4.out; have := Ln19.out; have := Lgb5.out; have := Ln26.out; have := Lgb6.out; have := Ln34.out; have := hk.2; omega) hd_).mono ?_)
       rintro e w43 ⟨he, hr0, hr1, hb2, hk⟩
       obtain rfl : e = .returned (.int .i64 m1) := by rw [he, Hp15.out]
       clear he
       clear hd_
       refine ⟨_, rfl, ?_⟩
       clear hx6_0 hx6_1 hx6_2 hx6_3
       clear Hq25f2 Hq25f3
       have n1 := Kd.R_kept Hq11f2.out hk (fun k hk h1 => by have := Lgb1.out; have := Ln7.out; have := Ln12.out; have := Lgb4.out; have := Ln19.out; have := Lgb5.out; have := Ln26.out; have := Lgb6.out; have := Ln34.out; have := hk.2; rcases h1 with h1 | h1 <;> have := h1.2 <;> omega)
       have n2 := Kd.S_kept Hq11f3.out hk (fun k hk h1 => by have := Lgb1.out; have := Ln7.out; have := Ln12.out; have := Lgb4.out; have := Ln19.out; have := Lgb5.out; have := Ln26.out; have := Lgb6.out; have := Ln34.out; have := hk.2; rcases h1 with h1 | h1 <;> have := h1.2 <;> omega)
       have n3 := Kd.R_kept Hq18f2.out hk (fun k hk h1 => by have := Lgb1.out; have := Ln7.out; have := Ln12.out; have := Lgb4.out; have := Ln19.out; have := Lgb5.out; have := Ln26.out; have := Lgb6.out; have := Ln34.out; have := hk.2; rcases h1 with h1 | h1 <;> have := h1.2 <;> omega)
       have n4 := Kd.S_kept Hq18f3.out hk (fun k hk h1 => by have := Lgb1.out; have := Ln7.out; have := Ln12.out; have := Lgb4.out; have := Ln19.out; have := Lgb5.out; have := Ln26.out; have := Lgb6.out; have := Ln34.out; have := hk.2; rcases h1 with h1 | h1 <;> have := h1.2 <;> omega)
       have n5 := blk_kept BK1.out hk (fun h1 => by have := Lgb1.out; have := Ln7.out; have := Ln12.out; have := Lgb4.out; have := Ln19.out; have := Lgb5.out; have := Ln26.out; have := Lgb6.out; have := Ln34.out; rcases h1 with h1 | h1 <;> have := h1.2 <;> omega)
       have n6 := blk_kept BK4.out hk (fun h1 => by have := Lgb1.out; have := Ln7.out; have := Ln12.out; have := Lgb4.out; have := Ln19.out; have := Lgb5.out; have := Ln26.out; have := Lgb6.out; have := Ln34.out; rcases h1 with h1 | h1 <;> have := h1.2 <;> omega)
       have n7 := blk_kept BK5.out hk (fun h1 => by have := Lgb1.out; have := Ln7.out; have := Ln12.out; have := Lgb4.out; have := Ln19.out; have := Lgb5.out; have := Ln26.out; have := Lgb6.out; have := Ln34.out; rcases h1 with h1 | h1 <;> have := h1.2 <;> omega)
       have n8 := blk_kept BK6.out hk (fun h1 => by have := Lgb1.out; have := Ln7.out; have := Ln12.out; have := Lgb4.out; have := Ln19.out; have := Lgb5.out; have := Ln26.out; have := Lgb6.out; have := Ln34.out; rcases h1 with h1 | h1 <;> have := h1.2 <;> omega)
       have n9 := Nat.le_trans HZ.out hk.1
       clear Hq11f2 Hq11f3 Hq18f2 Hq18f3 BK1 BK4 BK5 BK6 HZ
       have Hq11f2 := Aside0.mk n1
       have Hq11f3 := Aside0.mk n2
       have Hq18f2 := Aside0.mk n3
       have Hq18f3 := Aside0.mk n4
       have BK1 := Aside0.mk n5
       have BK4 := Aside0.mk n6
       have BK5 := Aside0.mk n7
       have BK6 := Aside0.mk n8
       have HZ := Aside0.mk n9
       clear n1 n2 n3 n4 n5 n6 n7 n8 n9
       have n1 := hb2; clear HB; have HB := Aside0.mk n1; clear n1
       have Hq25f2 := Aside0.mk hr0
       have Hq25f3 := Aside0.mk hr1
       clear hb2 hk hr0 hr1
       have hx6_0 : w43.cell? ⟨gb6, 0, none⟩ = some (.int .i64 r.f0) := (blk_cell BK6.out 0).trans rfl
       have hx6_1 : w43.cell? ⟨gb6, 1, none⟩ = some (.int .i64 r.f1) := (blk_cell BK6.out 1).trans rfl
       have hx6_2 : w43.cell? ⟨gb6, 2, none⟩ = some (.slice Aq25f2 r.f2.length cq25f2) := (blk_cell BK6.out 2).trans rfl
       have hx6_3 : w43.cell? ⟨gb6, 3, none⟩ = some (.slice Aq25f3 r.f3.length cq25f3) := (blk_cell BK6.out 3).trans rfl)
    | ((with_reducible refine gate_callee (f := 16) rfl ?_)
       refine goesL_ (some 48) rfl rfl Try.func16 (by kernel_rfl) rfl #[.agg #[.int .i64 r.f0, .int .i64 r.f1, .slice Aq25f2 r.f2.length cq25f2, .slice Aq25f3 r.f3.length cq25f3], .int .i64 1] rfl (by (try simp only [List.map_toArray, List.map_cons, List.map_nil]); first | done | rfl) ?_
       have hh := p17
       obtain ⟨kq46, eq46⟩ := hh
       refine calls_of_args (args' := #[.agg #[.int .i64 r.f0, .int .i64 r.f1, .slice Aq25f2 (mtS (1) r.f2.length).length cq25f2, .slice Aq25f3 (mkValueS r.f3 (1 + (r.f2.length : Nat))).length cq25f3], .int .i64 1]) (by simp only [mtS_length, mkValueS_length]) ?_
       (with_reducible refine (laws_heldValue.calls kq46 (r.f0) (r.f1) _ _ (mtS (1) r.f2.length) _ _ (mkValueS r.f3 (1 + (r.f2.length : Nat))) 1 m1 _ (by first | exact (Kd.R_reads' Hq25f2.out).2.2 | (rw [mtS_length]; exact (Kd.R_reads' Hq25f2.out).2.2)) (by first | exact (Kd.R_reads' Hq25f2.out).2.1 | (rw [mtS_length]; exact (Kd.R_reads' Hq25f2.out).2.1)) (by first | exact (Kd.S_reads' Hq25f3.out).2.2 | (rw [mkValueS_length]; exact (Kd.S_reads' Hq25f3.out).2.2)) (by first | exact (Kd.S_reads' Hq25f3.out).2.1 | (rw [mkValueS_length]; exact (Kd.S_reads' Hq25f3.out).2.1)) eq46).mono ?_)
       rintro e w45 ⟨rfl, hb⟩
       (try replace hb := Drawn0.below hb)
       refine ⟨_, rfl, ?_⟩
       clear hx6_0 hx6_1 hx6_2 hx6_3
       have n1 := Kd.R_below Hq11f2.out hb
       have n2 := Kd.S_below Hq11f3.out hb
       have n3 := Kd.R_below Hq18f2.out hb
       have n4 := Kd.S_below Hq18f3.out hb
       have n5 := Kd.R_below Hq25f2.out hb
       have n6 := Kd.S_below Hq25f3.out hb
       have n7 := blk_below BK1.out hb
       have n8 := blk_below BK4.out hb
       have n9 := blk_below BK5.out hb
       have n10 := blk_below BK6.out hb
       have n11 := below_step HB.out hb
       have n12 := Nat.le_trans HZ.out hb.size
       clear Hq11f2 Hq11f3 Hq18f2 Hq18f3 Hq25f2 Hq25f3 BK1 BK4 BK5 BK6 HB HZ
       have Hq11f2 := Aside0.mk n1
       have Hq11f3 := Aside0.mk n2
       have Hq18f2 := Aside0.mk n3
       have Hq18f3 := Aside0.mk n4
       have Hq25f2 := Aside0.mk n5
       have Hq25f3 := Aside0.mk n6
       have BK1 := Aside0.mk n7
       have BK4 := Aside0.mk n8
       have BK5 := Aside0.mk n9
       have BK6 := Aside0.mk n10
       have HB := Aside0.mk n11
       have HZ := Aside0.mk n12
       clear n1 n2 n3 n4 n5 n6 n7 n8 n9 n10 n11 n12
       clear hb
       have hx1_0 : w45.cell? ⟨gb1, 0, none⟩ = some (.int .i64 x0.f0) := (blk_cell BK1.out 0).trans rfl
       have hx1_1 : w45.cell? ⟨gb1, 1, none⟩ = some (.int .i64 x0.f1) := (blk_cell BK1.out 1).trans rfl
       have hx1_2 : w45.cell? ⟨gb1, 2, none⟩ = some (.slice A0f2 x0.f2.length c0f2) := (blk_cell BK1.out 2).trans rfl
       have hx1_3 : w45.cell? ⟨gb1, 3, none⟩ = some (.slice A0f3 x0.f3.length c0f3) := (blk_cell BK1.out 3).trans rfl)
    | ((with_reducible refine gate_callee (f := 8) rfl ?_)
       refine goesL_ (some 55) rfl rfl Try.func8 (by kernel_rfl) rfl #[.agg #[.int .i64 x0.f0, .int .i64 x0.f1, .slice A0f2 x0.f2.length c0f2, .slice A0f3 x0.f3.length c0f3]] rfl (by (try simp only [List.map_toArray, List.map_cons, List.map_nil]); first | done | rfl) ?_
       have hh := p2
       obtain ⟨kq48, eq48⟩ := hh
       (with_reducible refine (laws_toValue.calls kq48 (x0.f0) (x0.f1) _ _ (x0.f2) _ _ (x0.f3) (y0.f0) (y0.f1) (y0.f2) (y0.f3) _ (Kd.C_below HA0f2.out HB.out) kHA0f2 (Kd.C_below HA0f3.out HB.out) kHA0f3 eq48).mono ?_)
       rintro e w47 ⟨u0, u1, rfl, ho0, ho1, hb⟩
       refine ⟨_, rfl, ?_⟩
       clear hx1_0 hx1_1 hx1_2 hx1_3
       obtain ⟨n50, en50⟩ : ∃ n, n = w45.heap.size := ⟨_, rfl⟩
       obtain ⟨n51, en51⟩ : ∃ n, n = w47.heap.size := ⟨_, rfl⟩
       have En50 := Aside0.mk en50; have En51 := Aside0.mk en51
       clear en50 en51
       have Hq49f2 := Aside0.mk (Ow.R_iv (base := W.heap.size) ho0 En50.out En51.out (by have := HZ.out; have := Lgb1.out; have := Ln7.out; have := Ln12.out; have := Lgb4.out; have := Ln19.out; have := Lgb5.out; have := Ln26.out; have := Lgb6.out; have := Ln34.out; have := En50.out; omega))
       clear ho0
       obtain ⟨Aq49f2, cq49f2, ea⟩ := Kd.R_slice Hq49f2.out
       subst ea
       have Hq49f3 := Aside0.mk (Ow.S_iv (base := W.heap.size) ho1 En50.out En51.out (by have := HZ.out; have := Lgb1.out; have := Ln7.out; have := Ln12.out; have := Lgb4.out; have := Ln19.out; have := Lgb5.out; have := Ln26.out; have := Lgb6.out; have := Ln34.out; have := En50.out; omega))
       clear ho1
       obtain ⟨Aq49f3, cq49f3, ea⟩ := Kd.S_slice Hq49f3.out
       subst ea
       have Ln50 := Aside0.mk (show n35 ≤ n50 ∧ n50 ≤ n51 by have := HZ.out; have := hb.size; have := En50.out; have := En51.out; omega)
       have n1 := Kd.R_below Hq11f2.out hb
       have n2 := Kd.S_below Hq11f3.out hb
       have n3 := Kd.R_below Hq18f2.out hb
       have n4 := Kd.S_below Hq18f3.out hb
       have n5 := Kd.R_below Hq25f2.out hb
       have n6 := Kd.S_below Hq25f3.out hb
       have n7 := blk_below BK1.out hb
       have n8 := blk_below BK4.out hb
       have n9 := blk_below BK5.out hb
       have n10 := blk_below BK6.out hb
       have n11 := below_step HB.out hb
       have n12 := Nat.le_trans HZ.out hb.size
       clear Hq11f2 Hq11f3 Hq18f2 Hq18f3 Hq25f2 Hq25f3 BK1 BK4 BK5 BK6 HB HZ
       have Hq11f2 := Aside0.mk n1
       have Hq11f3 := Aside0.mk n2
       have Hq18f2 := Aside0.mk n3
       have Hq18f3 := Aside0.mk n4
       have Hq25f2 := Aside0.mk n5
       have Hq25f3 := Aside0.mk n6
       have BK1 := Aside0.mk n7
       have BK4 := Aside0.mk n8
       have BK5 := Aside0.mk n9
       have BK6 := Aside0.mk n10
       have HB := Aside0.mk n11
       have HZ := Aside0.mk n12
       clear n1 n2 n3 n4 n5 n6 n7 n8 n9 n10 n11 n12
       replace HZ := Aside0.mk (show n51 ≤ w47.heap.size by have := En51.out; omega)
       clear hb)
    | ((with_reducible refine gate_callee (f := 14) rfl ?_)
       refine goesL_ (some 56) rfl rfl Try.func14 (by kernel_rfl) rfl #[.agg #[.int .i64 y0.f0, .int .i64 y0.f1, .slice Aq49f2 y0.f2.length cq49f2, .slice Aq49f3 y0.f3.length cq49f3]] rfl (by (try simp only [List.map_toArray, List.map_cons, List.map_nil]); first | done | rfl) ?_
       have hh := p4
       obtain ⟨kq53, eq53⟩ := hh
       (with_reducible refine (impl_CanonValue.calls kq53 (y0.f0) (y0.f1) _ _ (y0.f2) _ _ (y0.f3) (r.f0) (r.f1) (r.f2) (r.f3) _ (Kd.R_reads' Hq49f2.out).2.2 (Kd.R_reads' Hq49f2.out).2.1 (Kd.S_reads' Hq49f3.out).2.2 (Kd.S_reads' Hq49f3.out).2.1 eq53).mono ?_)
       rintro e w52 ⟨u0, u1, rfl, ho0, ho1, hb⟩
       refine ⟨_, rfl, ?_⟩
       obtain ⟨n55, en55⟩ : ∃ n, n = w47.heap.size := ⟨_, rfl⟩
       obtain ⟨n56, en56⟩ : ∃ n, n = w52.heap.size := ⟨_, rfl⟩
       have En55 := Aside0.mk en55; have En56 := Aside0.mk en56
       clear en55 en56
       have Hq54f2 := Aside0.mk (Ow.R_iv (base := W.heap.size) ho0 En55.out En56.out (by have := HZ.out; have := Lgb1.out; have := Ln7.out; have := Ln12.out; have := Lgb4.out; have := Ln19.out; have := Lgb5.out; have := Ln26.out; have := Lgb6.out; have := Ln34.out; have := Ln50.out; have := En55.out; omega))
       clear ho0
       obtain ⟨Aq54f2, cq54f2, ea⟩ := Kd.R_slice Hq54f2.out
       subst ea
       have Hq54f3 := Aside0.mk (Ow.S_iv (base := W.heap.size) ho1 En55.out En56.out (by have := HZ.out; have := Lgb1.out; have := Ln7.out; have := Ln12.out; have := Lgb4.out; have := Ln19.out; have := Lgb5.out; have := Ln26.out; have := Lgb6.out; have := Ln34.out; have := Ln50.out; have := En55.out; omega))
       clear ho1
       obtain ⟨Aq54f3, cq54f3, ea⟩ := Kd.S_slice Hq54f3.out
       subst ea
       have Ln55 := Aside0.mk (show n51 ≤ n55 ∧ n55 ≤ n56 by have := HZ.out; have := hb.size; have := En55.out; have := En56.out; omega)
       have n1 := Kd.R_below Hq11f2.out hb
       have n2 := Kd.S_below Hq11f3.out hb
       have n3 := Kd.R_below Hq18f2.out hb
       have n4 := Kd.S_below Hq18f3.out hb
       have n5 := Kd.R_below Hq25f2.out hb
       have n6 := Kd.S_below Hq25f3.out hb
       have n7 := Kd.R_below Hq49f2.out hb
       have n8 := Kd.S_below Hq49f3.out hb
       have n9 := blk_below BK1.out hb
       have n10 := blk_below BK4.out hb
       have n11 := blk_below BK5.out hb
       have n12 := blk_below BK6.out hb
       have n13 := below_step HB.out hb
       have n14 := Nat.le_trans HZ.out hb.size
       clear Hq11f2 Hq11f3 Hq18f2 Hq18f3 Hq25f2 Hq25f3 Hq49f2 Hq49f3 BK1 BK4 BK5 BK6 HB HZ
       have Hq11f2 := Aside0.mk n1
       have Hq11f3 := Aside0.mk n2
       have Hq18f2 := Aside0.mk n3
       have Hq18f3 := Aside0.mk n4
       have Hq25f2 := Aside0.mk n5
       have Hq25f3 := Aside0.mk n6
       have Hq49f2 := Aside0.mk n7
       have Hq49f3 := Aside0.mk n8
       have BK1 := Aside0.mk n9
       have BK4 := Aside0.mk n10
       have BK5 := Aside0.mk n11
       have BK6 := Aside0.mk n12
       have HB := Aside0.mk n13
       have HZ := Aside0.mk n14
       clear n1 n2 n3 n4 n5 n6 n7 n8 n9 n10 n11 n12 n13 n14
       replace HZ := Aside0.mk (show n56 ≤ w52.heap.size by have := En56.out; omega)
       clear hb)
    | ((with_reducible refine gate_dst (N := 10) rfl ?_)
       refine box_event ?hg (N := 10) ?hd (cs := #[.int .i64 0, .int .i64 0, .slice none 0 0, .slice none 0 0]) (t := 30) ?hr ?_; (case hd => rfl); (case hg => rfl); (case hr => first | (go_simp; done) | (go_simp; rfl))
       intro gb10 hg w57 hbox hbA
       have HBA := Aside0.mk hbA; have HGA := Aside0.mk hg; have HXA := Aside0.mk hbox
       clear hbA hg hbox
       have hx10_0 : w57.cell? ⟨gb10, 0, none⟩ = some (.int .i64 0) := (blk_cell HXA.out 0).trans rfl
       have hx10_1 : w57.cell? ⟨gb10, 1, none⟩ = some (.int .i64 0) := (blk_cell HXA.out 1).trans rfl
       have hx10_2 : w57.cell? ⟨gb10, 2, none⟩ = some (.slice none 0 0) := (blk_cell HXA.out 2).trans rfl
       have hx10_3 : w57.cell? ⟨gb10, 3, none⟩ = some (.slice none 0 0) := (blk_cell HXA.out 3).trans rfl
       have hf10_0 := blk_frozen HXA.out 0
       have hf10_1 := blk_frozen HXA.out 1
       have hf10_2 := blk_frozen HXA.out 2
       have hf10_3 := blk_frozen HXA.out 3)
    | ((with_reducible refine gate_store (t := 30) (p := 10) rfl ?_)
       refine store_event (t := 30) (p := 10) (v := ?vo_w58) (w1 := ((((w57.setCell ⟨gb10, 0, none⟩ (.int .i64 r.f0)).setCell ⟨gb10, 1, none⟩ (.int .i64 r.f1)).setCell ⟨gb10, 2, none⟩ (.slice Aq54f2 r.f2.length cq54f2)).setCell ⟨gb10, 3, none⟩ (.slice Aq54f3 r.f3.length cq54f3))) ?hg ?ho ?hn ?hr ?_; (case ho => rfl); (case hg => rfl); (case hn => rfl); (case hr => first | (go_simp; done) | (go_simp; rfl)); intro w58 hw
       have hb : Below w52.heap.size w52 w58 := by rw [hw]; exact below_set (below_set (below_set (below_set (HBA.out) (Nat.le_of_eq HGA.out.symm)) (Nat.le_of_eq HGA.out.symm)) (Nat.le_of_eq HGA.out.symm)) (Nat.le_of_eq HGA.out.symm)
       have hbox : w58.heap[gb10]? = some (.cells #[.int .i64 r.f0, .int .i64 r.f1, .slice Aq54f2 r.f2.length cq54f2, .slice Aq54f3 r.f3.length cq54f3] 30 (0, 0)) := by rw [hw]; exact blk_put (cs := #[.int .i64 r.f0, .int .i64 r.f1, .slice Aq54f2 r.f2.length cq54f2, .slice none 0 0]) (blk_put (cs := #[.int .i64 r.f0, .int .i64 r.f1, .slice none 0 0, .slice none 0 0]) (blk_put (cs := #[.int .i64 r.f0, .int .i64 0, .slice none 0 0, .slice none 0 0]) (blk_put (cs := #[.int .i64 0, .int .i64 0, .slice none 0 0, .slice none 0 0]) (HXA.out) 0 (.int .i64 r.f0) rfl) 1 (.int .i64 r.f1) rfl) 2 (.slice Aq54f2 r.f2.length cq54f2) rfl) 3 (.slice Aq54f3 r.f3.length cq54f3) rfl
       have Lgb10 := Aside0.mk (show n56 ≤ gb10 by rw [HGA.out]; exact HZ.out)
       clear hw HBA HGA HXA hx10_0 hf10_0 hx10_1 hf10_1 hx10_2 hf10_2 hx10_3 hf10_3
       have n1 := Kd.R_below Hq11f2.out hb
       have n2 := Kd.S_below Hq11f3.out hb
       have n3 := Kd.R_below Hq18f2.out hb
       have n4 := Kd.S_below Hq18f3.out hb
       have n5 := Kd.R_below Hq25f2.out hb
       have n6 := Kd.S_below Hq25f3.out hb
       have n7 := Kd.R_below Hq54f2.out hb
       have n8 := Kd.S_below Hq54f3.out hb
       have n9 := blk_below BK1.out hb
       have n10 := blk_below BK4.out hb
       have n11 := blk_below BK5.out hb
       have n12 := blk_below BK6.out hb
       have n13 := below_step HB.out hb
       have n14 := Nat.le_trans HZ.out hb.size
       clear Hq11f2 Hq11f3 Hq18f2 Hq18f3 Hq25f2 Hq25f3 Hq54f2 Hq54f3 BK1 BK4 BK5 BK6 HB HZ
       have Hq11f2 := Aside0.mk n1
       have Hq11f3 := Aside0.mk n2
       have Hq18f2 := Aside0.mk n3
       have Hq18f3 := Aside0.mk n4
       have Hq25f2 := Aside0.mk n5
       have Hq25f3 := Aside0.mk n6
       have Hq54f2 := Aside0.mk n7
       have Hq54f3 := Aside0.mk n8
       have BK1 := Aside0.mk n9
       have BK4 := Aside0.mk n10
       have BK5 := Aside0.mk n11
       have BK6 := Aside0.mk n12
       have HB := Aside0.mk n13
       have HZ := Aside0.mk n14
       clear n1 n2 n3 n4 n5 n6 n7 n8 n9 n10 n11 n12 n13 n14
       have BK10 := Aside0.mk hbox
       replace HZ := Aside0.mk (show gb10 + 1 ≤ w58.heap.size from blk_lt hbox)
       clear hbox hb
       have hx10_0 : w58.cell? ⟨gb10, 0, none⟩ = some (.int .i64 r.f0) := (blk_cell BK10.out 0).trans rfl
       have hx10_1 : w58.cell? ⟨gb10, 1, none⟩ = some (.int .i64 r.f1) := (blk_cell BK10.out 1).trans rfl
       have hx10_2 : w58.cell? ⟨gb10, 2, none⟩ = some (.slice Aq54f2 r.f2.length cq54f2) := (blk_cell BK10.out 2).trans rfl
       have hx10_3 : w58.cell? ⟨gb10, 3, none⟩ = some (.slice Aq54f3 r.f3.length cq54f3) := (blk_cell BK10.out 3).trans rfl
       have hx4_0 : w58.cell? ⟨gb4, 0, none⟩ = some (.int .i64 r.f0) := (blk_cell BK4.out 0).trans rfl
       have hx4_1 : w58.cell? ⟨gb4, 1, none⟩ = some (.int .i64 r.f1) := (blk_cell BK4.out 1).trans rfl
       have hx4_2 : w58.cell? ⟨gb4, 2, none⟩ = some (.slice Aq11f2 r.f2.length cq11f2) := (blk_cell BK4.out 2).trans rfl
       have hx4_3 : w58.cell? ⟨gb4, 3, none⟩ = some (.slice Aq11f3 r.f3.length cq11f3) := (blk_cell BK4.out 3).trans rfl)
    | ((with_reducible refine gate_callee (f := 10) rfl ?_)
       refine goesL_ (some 59) rfl rfl Try.func10 (by kernel_rfl) rfl #[.agg #[.int .i64 r.f0, .int .i64 r.f1, .slice Aq54f2 r.f2.length cq54f2, .slice Aq54f3 r.f3.length cq54f3], .agg #[.int .i64 r.f0, .int .i64 r.f1, .slice Aq11f2 r.f2.length cq11f2, .slice Aq11f3 r.f3.length cq11f3]] rfl (by (try simp only [List.map_toArray, List.map_cons, List.map_nil]); first | done | rfl) ?_
       have hh := p5
       obtain ⟨kq60, eq60⟩ := hh
       (with_reducible refine (laws_eqValue.calls kq60 (r.f0) (r.f1) _ _ (r.f2) _ _ (r.f3) (r.f0) (r.f1) _ _ (r.f2) _ _ (r.f3) true _ (Kd.R_reads' Hq54f2.out).2.2 (Kd.R_reads' Hq54f2.out).2.1 (Kd.S_reads' Hq54f3.out).2.2 (Kd.S_reads' Hq54f3.out).2.1 (Kd.R_reads' Hq11f2.out).2.2 (Kd.R_reads' Hq11f2.out).2.1 (Kd.S_reads' Hq11f3.out).2.2 (Kd.S_reads' Hq11f3.out).2.1 eq60).mono ?_)
       rintro e w59 ⟨rfl, hb⟩
       (try replace hb := Drawn0.below hb)
       refine ⟨_, rfl, ?_⟩
       clear hx10_0 hx10_1 hx10_2 hx10_3 hx4_0 hx4_1 hx4_2 hx4_3
       have n1 := Kd.R_below Hq11f2.out hb
       have n2 := Kd.S_below Hq11f3.out hb
       have n3 := Kd.R_below Hq18f2.out hb
       have n4 := Kd.S_below Hq18f3.out hb
       have n5 := Kd.R_below Hq25f2.out hb
       have n6 := Kd.S_below Hq25f3.out hb
       have n7 := Kd.R_below Hq54f2.out hb
       have n8 := Kd.S_below Hq54f3.out hb
       have n9 := blk_below BK1.out hb
       have n10 := blk_below BK4.out hb
       have n11 := blk_below BK5.out hb
       have n12 := blk_below BK6.out hb
       have n13 := blk_below BK10.out hb
       have n14 := below_step HB.out hb
       have n15 := Nat.le_trans HZ.out hb.size
       clear Hq11f2 Hq11f3 Hq18f2 Hq18f3 Hq25f2 Hq25f3 Hq54f2 Hq54f3 BK1 BK4 BK5 BK6 BK10 HB HZ
       have Hq11f2 := Aside0.mk n1
       have Hq11f3 := Aside0.mk n2
       have Hq18f2 := Aside0.mk n3
       have Hq18f3 := Aside0.mk n4
       have Hq25f2 := Aside0.mk n5
       have Hq25f3 := Aside0.mk n6
       have Hq54f2 := Aside0.mk n7
       have Hq54f3 := Aside0.mk n8
       have BK1 := Aside0.mk n9
       have BK4 := Aside0.mk n10
       have BK5 := Aside0.mk n11
       have BK6 := Aside0.mk n12
       have BK10 := Aside0.mk n13
       have HB := Aside0.mk n14
       have HZ := Aside0.mk n15
       clear n1 n2 n3 n4 n5 n6 n7 n8 n9 n10 n11 n12 n13 n14 n15
       clear hb
       have hx6_0 : w59.cell? ⟨gb6, 0, none⟩ = some (.int .i64 r.f0) := (blk_cell BK6.out 0).trans rfl
       have hx6_1 : w59.cell? ⟨gb6, 1, none⟩ = some (.int .i64 r.f1) := (blk_cell BK6.out 1).trans rfl
       have hx6_2 : w59.cell? ⟨gb6, 2, none⟩ = some (.slice Aq25f2 r.f2.length cq25f2) := (blk_cell BK6.out 2).trans rfl
       have hx6_3 : w59.cell? ⟨gb6, 3, none⟩ = some (.slice Aq25f3 r.f3.length cq25f3) := (blk_cell BK6.out 3).trans rfl)
    | ((with_reducible refine gate_callee (f := 16) rfl ?_)
       refine goesL_ (some 63) rfl rfl Try.func16 (by kernel_rfl) rfl #[.agg #[.int .i64 r.f0, .int .i64 r.f1, .slice Aq25f2 r.f2.length cq25f2, .slice Aq25f3 r.f3.length cq25f3], .int .i64 1] rfl (by (try simp only [List.map_toArray, List.map_cons, List.map_nil]); first | done | rfl) ?_
       have hh := p17
       obtain ⟨kq62, eq62⟩ := hh
       refine calls_of_args (args' := #[.agg #[.int .i64 r.f0, .int .i64 r.f1, .slice Aq25f2 (mtS (1) r.f2.length).length cq25f2, .slice Aq25f3 (mkValueS r.f3 (1 + (r.f2.length : Nat))).length cq25f3], .int .i64 1]) (by simp only [mtS_length, mkValueS_length]) ?_
       (with_reducible refine (laws_heldValue.calls kq62 (r.f0) (r.f1) _ _ (mtS (1) r.f2.length) _ _ (mkValueS r.f3 (1 + (r.f2.length : Nat))) 1 m1 _ (by first | exact (Kd.R_reads' Hq25f2.out).2.2 | (rw [mtS_length]; exact (Kd.R_reads' Hq25f2.out).2.2)) (by first | exact (Kd.R_reads' Hq25f2.out).2.1 | (rw [mtS_length]; exact (Kd.R_reads' Hq25f2.out).2.1)) (by first | exact (Kd.S_reads' Hq25f3.out).2.2 | (rw [mkValueS_length]; exact (Kd.S_reads' Hq25f3.out).2.2)) (by first | exact (Kd.S_reads' Hq25f3.out).2.1 | (rw [mkValueS_length]; exact (Kd.S_reads' Hq25f3.out).2.1)) eq62).mono ?_)
       rintro e w61 ⟨rfl, hb⟩
       (try replace hb := Drawn0.below hb)
       refine ⟨_, rfl, ?_⟩
       clear hx6_0 hx6_1 hx6_2 hx6_3
       have n1 := Kd.R_below Hq11f2.out hb
       have n2 := Kd.S_below Hq11f3.out hb
       have n3 := Kd.R_below Hq18f2.out hb
       have n4 := Kd.S_below Hq18f3.out hb
       have n5 := Kd.R_below Hq25f2.out hb
       have n6 := Kd.S_below Hq25f3.out hb
       have n7 := Kd.R_below Hq54f2.out hb
       have n8 := Kd.S_below Hq54f3.out hb
       have n9 := blk_below BK1.out hb
       have n10 := blk_below BK4.out hb
       have n11 := blk_below BK5.out hb
       have n12 := blk_below BK6.out hb
       have n13 := blk_below BK10.out hb
       have n14 := below_step HB.out hb
       have n15 := Nat.le_trans HZ.out hb.size
       clear Hq11f2 Hq11f3 Hq18f2 Hq18f3 Hq25f2 Hq25f3 Hq54f2 Hq54f3 BK1 BK4 BK5 BK6 BK10 HB HZ
       have Hq11f2 := Aside0.mk n1
       have Hq11f3 := Aside0.mk n2
       have Hq18f2 := Aside0.mk n3
       have Hq18f3 := Aside0.mk n4
       have Hq25f2 := Aside0.mk n5
       have Hq25f3 := Aside0.mk n6
       have Hq54f2 := Aside0.mk n7
       have Hq54f3 := Aside0.mk n8
       have BK1 := Aside0.mk n9
       have BK4 := Aside0.mk n10
       have BK5 := Aside0.mk n11
       have BK6 := Aside0.mk n12
       have BK10 := Aside0.mk n13
       have HB := Aside0.mk n14
       have HZ := Aside0.mk n15
       clear n1 n2 n3 n4 n5 n6 n7 n8 n9 n10 n11 n12 n13 n14 n15
       clear hb))
  go_ret
  exact ⟨rfl, HB.out⟩
set_option maxHeartbeats 8000000 in
set_option maxRecDepth 100000 in
theorem FnExactCanonValue_stop1 (x0 : S25) (y0 : S30) (r : S30) (left0 : Int)
    (p0 : ∃ k, laws_szValue.f k (x0.f0) (x0.f1) (x0.f2) (x0.f3) 1048576 = some left0)
    (p1 : decide (left0 < 0) = true)
    (W : World) {A0f2 : Option Addr} {c0f2 : Nat} (hHA0f2 : Kd.C Kd.string W A0f2 x0.f2.length x0.f2) (kHA0f2 : x0.f2.length ≤ c0f2) {A0f3 : Option Addr} {c0f3 : Nat} (hHA0f3 : Kd.C k25 W A0f3 x0.f3.length x0.f3) (kHA0f3 : x0.f3.length ≤ c0f3) :
    Calls Try.prog 5 #[.agg #[.int .i64 x0.f0, .int .i64 x0.f1, .slice A0f2 x0.f2.length c0f2, .slice A0f3 x0.f3.length c0f3]] W fun e w' => e = .returned (.bool true) ∧ Below W.heap.size W w' := by
  have HA0f2 := Aside0.mk hHA0f2
  clear hHA0f2
  have HA0f3 := Aside0.mk hHA0f3
  clear hHA0f3
  have HB := Aside0.mk (Below.refl W.heap.size W)
  have HZ := Aside0.mk (Nat.le_refl W.heap.size)
  have HZ0 := Aside0.mk (Nat.le_refl W.heap.size)
  go_enter Try.func5, Try.ntmps5
  go_wp2_with (first
    | ((with_reducible refine gate_dst (N := 1) rfl ?_)
       refine box_event ?hg (N := 1) ?hd (cs := #[.int .i64 x0.f0, .int .i64 x0.f1, .slice A0f2 x0.f2.length c0f2, .slice A0f3 x0.f3.length c0f3]) (t := 25) ?hr ?_; (case hd => rfl); (case hg => rfl); (case hr => first | (go_simp; done) | (go_simp; rfl))
       intro gb1 hg w1 hbox hb
       have Lgb1 := Aside0.mk (show W.heap.size ≤ gb1 by rw [hg]; exact HZ.out)
       have n1 := below_step HB.out hb
       have n2 := Nat.le_trans HZ.out hb.size
       clear HB HZ
       have HB := Aside0.mk n1
       have HZ := Aside0.mk n2
       clear n1 n2
       have BK1 := Aside0.mk hbox
       replace HZ := Aside0.mk (show gb1 + 1 ≤ w1.heap.size from blk_lt hbox)
       clear hbox hb hg
       have hx1_0 : w1.cell? ⟨gb1, 0, none⟩ = some (.int .i64 x0.f0) := (blk_cell BK1.out 0).trans rfl
       have hx1_1 : w1.cell? ⟨gb1, 1, none⟩ = some (.int .i64 x0.f1) := (blk_cell BK1.out 1).trans rfl
       have hx1_2 : w1.cell? ⟨gb1, 2, none⟩ = some (.slice A0f2 x0.f2.length c0f2) := (blk_cell BK1.out 2).trans rfl
       have hx1_3 : w1.cell? ⟨gb1, 3, none⟩ = some (.slice A0f3 x0.f3.length c0f3) := (blk_cell BK1.out 3).trans rfl)
    | ((with_reducible refine gate_callee (f := 6) rfl ?_)
       refine goesL_ (some 13) rfl rfl Try.func6 (by kernel_rfl) rfl #[.agg #[.int .i64 x0.f0, .int .i64 x0.f1, .slice A0f2 x0.f2.length c0f2, .slice A0f3 x0.f3.length c0f3], .int .i64 1048576] rfl (by (try simp only [List.map_toArray, List.map_cons, List.map_nil]); first | done | rfl) ?_
       have hh := p0
       obtain ⟨kq3, eq3⟩ := hh
       (with_reducible refine (laws_szValue.calls kq3 (x0.f0) (x0.f1) _ _ (x0.f2) _ _ (x0.f3) 1048576 left0 _ (Kd.C_below HA0f2.out HB.out) kHA0f2 (Kd.C_below HA0f3.out HB.out) kHA0f3 eq3).mono ?_)
       rintro e w2 ⟨rfl, hb⟩
       (try replace hb := Drawn0.below hb)
       refine ⟨_, rfl, ?_⟩
       clear hx1_0 hx1_1 hx1_2 hx1_3
       have n1 := blk_below BK1.out hb
       have n2 := below_step HB.out hb
       have n3 := Nat.le_trans HZ.out hb.size
       clear BK1 HB HZ
       have BK1 := Aside0.mk n1
       have HB := Aside0.mk n2
       have HZ := Aside0.mk n3
       clear n1 n2 n3
       clear hb
       have hx1_0 : w2.cell? ⟨gb1, 0, none⟩ = some (.int .i64 x0.f0) := (blk_cell BK1.out 0).trans rfl
       have hx1_1 : w2.cell? ⟨gb1, 1, none⟩ = some (.int .i64 x0.f1) := (blk_cell BK1.out 1).trans rfl
       have hx1_2 : w2.cell? ⟨gb1, 2, none⟩ = some (.slice A0f2 x0.f2.length c0f2) := (blk_cell BK1.out 2).trans rfl
       have hx1_3 : w2.cell? ⟨gb1, 3, none⟩ = some (.slice A0f3 x0.f3.length c0f3) := (blk_cell BK1.out 3).trans rfl))
  go_ret
  exact ⟨rfl, HB.out⟩
end Go.Proofs.Ytonimhfahjediaa.Pk
end
section
namespace Go.Proofs.Ytonimhfahjediaa.Pk
open Go.RowKit Go.Proofs.YtonimhfahjediaaW.PrintWords Go.Proofs.YtonimhfahjediaaW.PrintLast Go.Proofs.Ytonimhfahjediaa.Pl Go.Proofs.Ytonimhfahjediaa.Ext
set_option linter.unusedVariables false
set_option linter.unusedSimpArgs false
theorem FnExactCanonValue_told (x0 : S25) (hW0 : W25 x0) (W : World) {A2 : Option Addr} {c2 : Nat} (g2 : Kd.C Kd.string W A2 x0.f2.length x0.f2) (k2 : x0.f2.length ≤ c2) {A3 : Option Addr} {c3 : Nat} (g3 : Kd.C k25 W A3 x0.f3.length x0.f3) (k3 : x0.f3.length ≤ c3) :
    Calls Try.prog 5 #[.agg #[.int .i64 x0.f0, .int .i64 x0.f1, .slice A2 x0.f2.length c2, .slice A3 x0.f3.length c3]] W fun e w' => e = .returned (.bool true) ∧ Below W.heap.size W w' := by
  have hs := szValue_ev x0 hW0 1048576 (by omega) (by omega)
  by_cases hc : cut (wtValue x0) 1048576 < 0
  · exact FnExactCanonValue_stop1 x0 (cvValue x0) (cvValue x0) _ hs.rounds (decide_eq_true hc) W g2 k2 g3 k3
  have hw : wtValue x0 ≤ 1048576 := by
    have := (not_congr (cut_neg (n := wtValue x0) (left := 1048576))).1 hc
    omega
  have sm := smValue_of x0 hW0 hw
  have smr := sm_canT _ sm
  have c0 := cnValue_cv x0
  have e0 := cnValue_eq (cvValue x0)
  have e1 := cnValue_eq (canT (cvValue x0))
  rw [cn_canT] at e1
  have ln0 := fun y hy => lnValue_of y (sm.p3.2 y hy)
  have ln1 := fun y hy => lnValue_of y (smr.p3.2 y hy)
  refine FnExactCanonValue_walk x0 (cvValue x0) (canT (cvValue x0)) _ _ _ hs.rounds (decide_eq_false hc) (toValue_ev x0 hw).rounds (specCanon_ev _ sm).rounds (implCanon_ev _ sm).rounds (eqValue_ev _ smr).rounds (eqValue_ev _ sm).rounds
    sm.p2.1 (marksValueS _ sm.p3.1 ln0) (by omega) rfl (decide_eq_false (by omega)) smr.p2.1 (marksValueS _ smr.p3.1 ln1) (by omega) rfl (decide_eq_false (by omega)) ?_ W g2 k2 g3 k3
  refine Ev.rounds ?_
  simp only [laws_heldValue.f]
  refine Ev.bind (heldStringS_ev _ (Nat.le_trans smr.p2.1 (by decide)) 1 (by omega) (by omega)) (Ev.neg (by omega) (Ev.bind (heldValueS_ev _ smr.p3.1 ln1 _ (by omega) (by omega)) (Ev.neg (by omega) (Ev.now _))))

end Go.Proofs.Ytonimhfahjediaa.Pk
end
section
namespace Go.Proofs.Ytonimhfahjediaa.Rd
open Go.RowKit Go.Proofs.YtonimhfahjediaaW.PrintWords
set_option linter.unusedVariables false
/-- What reads as_ data of type t, by at most n steps, is of kind d and meets q. -/
def Op (P : Program) (n : Nat) (t : TypeId) {α : Type} (d : Kd α) (q : α → Prop) : Prop :=
  ∀ (H : Type) (enc : TypeId × Value → H) (w : World) (base : Nat) (spare : Nat → Bool) (held : Bool) (fuel : Nat) (cs : List Value) (x : DataW H × List MemPlace),
    fuel ≤ n → DataW.trod enc P w base spare held fuel t cs = some x → ∃ y, d.K w y cs ∧ q y
theorem Op.imp {P : Program} {n : Nat} {t : TypeId} {α : Type} {d d' : Kd α} {q q' : α → Prop} (h1 : ∀ w y cs, d.K w y cs → d'.K w y cs) (h2 : ∀ y, q y → q' y) (h : Op P n t d q) : Op P n t d' q' := by
  intro H enc w base spare held fuel cs x hf hx
  obtain ⟨y, hy, hq⟩ := h H enc w base spare held fuel cs x hf hx
  exact ⟨y, h1 _ _ _ hy, h2 _ hq⟩
theorem Op.iso {P : Program} {n : Nat} {t : TypeId} {α β : Type} {d : Kd α} {q : α → Prop} {f : β → α} (g : α → β) (hg : ∀ y, f (g y) = y) (h : Op P n t d q) : Op P n t (Kd.iso d f) (fun x => q (f x)) := by
  intro H enc w base spare held fuel cs x hf hx
  obtain ⟨y, hy, hq⟩ := h H enc w base spare held fuel cs x hf hx
  refine ⟨g y, ?_, ?_⟩
  · show d.K w (f (g y)) cs
    rw [hg]; exact hy
  · show q (f (g y))
    rw [hg]; exact hq
theorem Op.int {P : Program} {n : Nat} {t : TypeId} {k : IntKind} (ht : P.underlying t = some (.int k)) : Op P n t (Kd.int k) (fun x => (Lit.int k x).wf = true) := by
  intro H enc w base spare held fuel cs x hf hx
  obtain ⟨m, rfl, rfl, hw⟩ := DataW.trod_int ht hx
  exact ⟨m, rfl, hw⟩
theorem Op.bool {P : Program} {n : Nat} {t : TypeId} (ht : P.underlying t = some .bool) : Op P n t Kd.bool (fun _ => True) := by
  intro H enc w base spare held fuel cs x hf hx
  obtain ⟨m, rfl, rfl⟩ := DataW.trod_bool ht hx
  exact ⟨m, rfl, trivial⟩
theorem trod_string' {H : Type} {enc : TypeId × Value → H} {P : Program} {w : World} {base : Nat} {spare : Nat → Bool} {held : Bool} {fuel : Nat} {t : TypeId} {cs : List Value} {x : DataW H × List MemPlace}
    (ht : P.underlying t = some .string) (h : DataW.trod enc P w base spare held fuel t cs = some x) : ∃ s, cs = [.string s] ∧ s.size ≤ maxLen := by
  cases fuel with
  | zero => simp [DataW.trod] at h
  | succ n =>
    unfold DataW.trod at h
    rw [ht] at h
    split at h <;> simp_all
theorem Op.string {P : Program} {n : Nat} {t : TypeId} (ht : P.underlying t = some .string) : Op P n t Kd.string (fun s => s.size ≤ maxLen) := by
  intro H enc w base spare held fuel cs x hf hx
  obtain ⟨m, rfl, hm⟩ := trod_string' ht hx
  exact ⟨m, rfl, hm⟩
theorem add_add (a : Addr) (i j : Nat) : (a.add i).add j = a.add (i + j) := by
  unfold Addr.add
  by_cases h1 : i = 0 <;> by_cases h2 : j = 0 <;> simp [h1, h2, Nat.add_assoc]
theorem choose_list {α : Type} {p : Nat → α → Prop} (n : Nat) (h : ∀ i, i < n → ∃ y, p i y) : ∃ ys : List α, ys.length = n ∧ ∀ i y, ys[i]? = some y → p i y := by
  induction n with
  | zero => exact ⟨[], rfl, fun i y hy => by simp at hy⟩
  | succ n ih =>
    obtain ⟨ys, hl, hy⟩ := ih (fun i hi => h i (by omega))
    obtain ⟨z, hz⟩ := h n (by omega)
    refine ⟨ys ++ [z], by simp [hl], fun i y hi => ?_⟩
    by_cases hlt : i < n
    · rw [List.getElem?_append_left (by omega)] at hi
      exact hy i y hi
    · by_cases he : i = n
      · subst he
        rw [List.getElem?_append_right (by omega)] at hi
        simp [hl] at hi
        subst hi
        exact hz
      · rw [List.getElem?_eq_none (by simp; omega)] at hi
        cases hi
theorem Op.slice {P : Program} {n : Nat} {t e : TypeId} {α : Type} {d : Kd α} {q : α → Prop} (ht : P.underlying t = some (.slice e)) (hsz : P.cellsOf e = d.sz) (h : ∀ k, k < n → Op P k e d q) :
    Op P n t (Kd.slice e d) (fun xs => xs.length ≤ maxLen ∧ ∀ y ∈ xs, q y) := by
  intro H enc w base spare held fuel cs x hf hx
  rcases DataW.trod_slice ht hx with ⟨rfl, _⟩ | ⟨a, len, cap, elems, rest, m, hm, rfl, _, hb, hl, hc, hlen, hel, _, _⟩
  · exact ⟨[], ⟨none, 0, rfl, Nat.le_refl _, ⟨rfl, by simp, fun hp => absurd hp (by simp)⟩⟩, by simp, fun y hy => by simp at hy⟩
  · have hone : ∀ i, i < len → ∃ y, (∃ c, c.length = d.sz ∧ d.K w y c ∧ ∀ j u, c[j]? = some u → w.cell? (a.add (i * d.sz + j)) = some u) ∧ q y := by
      intro i hi
      have h1 := hel i hi
      rw [List.getElem?_eq_getElem (by omega)] at h1
      obtain ⟨c, hc1, hc2⟩ := Option.bind_eq_some_iff.1 h1
      obtain ⟨y, hy, hq⟩ := h m (by omega) H enc w base spare held m c _ (Nat.le_refl _) hc2
      obtain ⟨_, hcl, hcells⟩ := World.cells?_some hc1
      refine ⟨y, ⟨c, by omega, hy, fun j u hu => ?_⟩, hq⟩
      have hj : j < P.cellsOf e := by
        rw [← hcl]
        exact (List.getElem?_eq_some_iff.1 hu).1
      have := hcells j hj
      rw [add_add, hsz] at this
      rw [this, hu]
    obtain ⟨ys, hyl, hys⟩ := choose_list len hone
    have hmx : len ≤ 9223372036854775807 := by
      have : cap ≤ 9223372036854775807 := hc
      omega
    refine ⟨ys, ⟨some a, cap, by rw [hyl], by omega, ⟨rfl, by omega, fun _ => ⟨a, rfl, fun j p hj => (hys j p hj).1⟩⟩⟩, by rw [hyl]; exact hmx, fun y hy => ?_⟩
    obtain ⟨i, hi, rfl⟩ := List.getElem_of_mem hy
    exact (hys i _ (List.getElem?_eq_getElem hi)).2
/-- Fields, from an offset on. -/
def OpF (P : Program) (n : Nat) (fs : List Field) (off : Nat) {α : Type} (d : Kd α) (q : α → Prop) : Prop :=
  ∀ (H : Type) (enc : TypeId × Value → H) (w : World) (base : Nat) (spare : Nat → Bool) (held : Bool) (fuel : Nat) (cs : List Value), fuel ≤ n →
    (∀ f ∈ fs, ∃ x, DataW.trod enc P w base spare held fuel f.type ((cs.drop f.offset).take (P.cellsOf f.type)) = some x) → cs.length = off + d.sz → ∃ y, d.K w y (cs.drop off) ∧ q y
theorem OpF.one {P : Program} {n : Nat} {f : Field} {off : Nat} {α : Type} {d : Kd α} {q : α → Prop} (ho : f.offset = off) (hsz : P.cellsOf f.type = d.sz) (h : Op P n f.type d q) : OpF P n [f] off d q := by
  intro H enc w base spare held fuel cs hf hx hl
  obtain ⟨x, hx⟩ := hx f (List.mem_singleton.2 rfl)
  rw [ho, hsz, List.take_of_length_le (by rw [List.length_drop]; omega)] at hx
  exact h H enc w base spare held fuel _ x hf hx
theorem OpF.cons {P : Program} {n : Nat} {f : Field} {fs : List Field} {off : Nat} {α β : Type} {a : Kd α} {b : Kd β} {qa : α → Prop} {qb : β → Prop} (ho : f.offset = off) (hsz : P.cellsOf f.type = a.sz) (h : Op P n f.type a qa) (hr : OpF P n fs (off + a.sz) b qb) :
    OpF P n (f :: fs) off (Kd.pair a b) (fun y => qa y.1 ∧ qb y.2) := by
  intro H enc w base spare held fuel cs hf hx hl
  have hl' : cs.length = off + (a.sz + b.sz) := hl
  obtain ⟨x, h1⟩ := hx f (List.mem_cons_self ..)
  rw [ho, hsz] at h1
  obtain ⟨y, hy, hq⟩ := h H enc w base spare held fuel _ x hf h1
  obtain ⟨z, hz, hq2⟩ := hr H enc w base spare held fuel cs hf (fun g hg => hx g (List.mem_cons_of_mem _ hg)) (by omega)
  refine ⟨(y, z), ⟨_, _, ?_, hy, hz⟩, hq, hq2⟩
  rw [← List.drop_drop, List.take_append_drop]
theorem Op.struct {P : Program} {n : Nat} {t : TypeId} {fs : Array Field} {α : Type} {d : Kd α} {q : α → Prop} (ht : P.underlying t = some (.struct fs)) (hsz : P.cellsOf t = d.sz) (h : ∀ k, k < n → OpF P k fs.toList 0 d q) : Op P n t d q := by
  intro H enc w base spare held fuel cs x hf hx
  obtain ⟨xs, m, hm, _, hl, hxl, hfs⟩ := DataW.trod_struct ht hx
  have hr := h m (by omega) H enc w base spare held m cs (Nat.le_refl _) (fun f hfm => ?_) (by omega)
  · simpa using hr
  · obtain ⟨i, hi, rfl⟩ := List.getElem_of_mem hfm
    have hi' : i < fs.size := by simpa using hi
    have h2 := hfs i _ (Array.getElem?_eq_getElem hi')
    rw [List.getElem?_eq_getElem (by omega)] at h2
    exact ⟨_, by simpa using h2⟩
/-- The same at whatever fuel. -/
theorem Op.open_ {P : Program} {t : TypeId} {α : Type} {d : Kd α} {q : α → Prop} (h : ∀ n, Op P n t d q) {H : Type} {enc : TypeId × Value → H} {w : World} {base : Nat} {spare : Nat → Bool} {held : Bool} {v : Value} {x : DataW H} {ps : List MemPlace}
    (ht : DataW.Trod enc P w base spare held t v x ps) : ∃ y, d.K w y v.cells.toList ∧ q y := by
  obtain ⟨fuel, hf⟩ := ht
  exact h fuel H enc w base spare held fuel _ _ (Nat.le_refl _) hf
end Go.Proofs.Ytonimhfahjediaa.Rd
end
section
namespace Go.Proofs.Ytonimhfahjediaa.Pk
open Go.RowKit Go.Proofs.Ytonimhfahjediaa.Ext Go.Proofs.YtonimhfahjediaaW.PrintWords Go.Proofs.YtonimhfahjediaaW.PrintLast Go.Proofs.YtonimhfahjediaaW.PrintMore Go.Proofs.Ytonimhfahjediaa
set_option linter.unusedVariables false
set_option linter.unusedSimpArgs false

theorem fold25 : ∀ (w : World) (x : S25) (cs : List Value), (F25 k25).K w x cs → k25.K w x cs := by
  intro w x cs h
  obtain ⟨_, _, rfl, rfl, ⟨_, _, rfl, rfl, ⟨_, _, rfl, ⟨A2, c2, rfl, l2, g2⟩, ⟨A3, c3, rfl, l3, g3⟩⟩⟩⟩ := h
  exact k25_mk w x l2 g2 l3 g3
theorem op25 : ∀ n, Rd.Op Try.prog n 25 k25 W25 := by
  intro n
  induction n using Nat.strongRecOn with
  | _ n ih =>
  exact Rd.Op.imp (d := F25 k25) fold25 (fun x h => W25.mk h.1 h.2.1 h.2.2.1 h.2.2.2.1 h.2.2.2.2) (Rd.Op.iso (g := fun p => ⟨p.1, p.2.1, p.2.2.1, p.2.2.2⟩) (fun _ => rfl) (Rd.Op.struct Try.underlying25 (by kernel_rfl) (fun j0 hj0 => (Rd.OpF.cons rfl (by kernel_rfl) (Rd.Op.int Try.underlying3) (Rd.OpF.cons rfl (by kernel_rfl) (Rd.Op.int Try.underlying3) (Rd.OpF.cons rfl (by kernel_rfl) (Rd.Op.slice Try.underlying22 (by kernel_rfl) (fun j1 hj1 => (Rd.Op.string Try.underlying9))) (Rd.OpF.one rfl (by kernel_rfl) (Rd.Op.slice Try.underlying23 (by kernel_rfl) (fun j1 hj1 => ih j1 (by omega))))))))))
end Go.Proofs.Ytonimhfahjediaa.Pk
end
