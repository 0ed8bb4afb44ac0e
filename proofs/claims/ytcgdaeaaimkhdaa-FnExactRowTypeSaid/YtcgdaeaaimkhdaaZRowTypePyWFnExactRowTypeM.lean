/- The walk of the law FnExactRowType: what it does, by what its functions come to. -/
import Derived.Test.YtcgdaeaaimkhdaaZRowTypeWTabM
import Derived.Test.YtcgdaeaaimkhdaaZRowTypePy7M
import Derived.Test.YtcgdaeaaimkhdaaZRowTypePy3M
import Derived.Test.YtcgdaeaaimkhdaaZRowTypePy6
import Derived.Test.YtcgdaeaaimkhdaaZRowTypePy9M
import Derived.Test.YtcgdaeaaimkhdaaZRowTypePyFTypeM
import Derived.Test.YtcgdaeaaimkhdaaZRowTypeWLastM
import Derived.Test.YtcgdaeaaimkhdaaZRowTypeWWords
import Derived.Deep.Slices
import Derived.ChangeArms
import Derived.DataReads
section
namespace Go.Proofs.Ytcgdaeaaimkhdaa.Py
open Go.RowKit Go.Proofs.YtcgdaeaaimkhdaaW.PrintWords Go.Proofs.YtcgdaeaaimkhdaaW.PrintLast Go.Proofs.YtcgdaeaaimkhdaaW.PrintMore Go.Proofs.Ytcgdaeaaimkhdaa.Pl Go.Proofs.Ytcgdaeaaimkhdaa.Ext
set_option linter.unusedVariables false
set_option linter.unusedSimpArgs false
set_option maxHeartbeats 8000000 in
set_option maxRecDepth 100000 in
theorem FnExactRowType_walk (x0 : S38) (x1 : ByteArray) (y0 : S43) (r : S29) (b : Bool) (left0 : Int) (m0 : Int) (m1 : Int)
    (p0 : decide ((x1.size : Int) > 1048576) = false)
    (p1 : ∃ k, laws_szSchema.f k (x0.f0) 1048576 = some left0)
    (p2 : decide (left0 < 0) = false)
    (p3 : ∃ k, laws_toSchema.f k (x0.f0) = some (y0.f0))
    (p4 : ∃ k, spec_RowType.f k (y0.f0) x1 = some (r.f0, r.f1, r.f2, b))
    (p5 : ∃ k, impl_RowType.f k (y0.f0) x1 = some (r.f0, r.f1, r.f2, b))
    (p6 : ∃ k, laws_eqType.f k (r.f0) (r.f1) (r.f2) (r.f0) (r.f1) (r.f2) = some true)
    (p7 : ∃ k, laws_eqSchema.f k (y0.f0) (y0.f0) = some true)
    (p8 : MarksTableDeclS y0.f0)
    (p9 : (1 + (cnTableDeclS y0.f0 : Nat) : Int) ≤ 4611686018427387000)
    (p10 : m0 = 1 + (cnTableDeclS y0.f0 : Nat))
    (p11 : decide (m0 < 0) = false)
    (p12 : r.f1.length ≤ 1048576)
    (p13 : MarksTypeS r.f2)
    (p14 : (1 + (r.f1.length : Nat) + (cnTypeS r.f2 : Nat) : Int) ≤ 4611686018427387000)
    (p15 : m1 = 1 + (r.f1.length : Nat) + (cnTypeS r.f2 : Nat))
    (p16 : decide (m1 < 0) = false)
    (p17 : ∃ k, laws_heldType.f k (r.f0) (mtS (1) r.f1.length) (mkTypeS r.f2 (1 + (r.f1.length : Nat))) 1 = some m1)
    (W : World) {A0f0 : Option Addr} {c0f0 : Nat} (hHA0f0 : Kd.C k136 W A0f0 x0.f0.length x0.f0) (kHA0f0 : x0.f0.length ≤ c0f0) :
    Calls Try.prog 4 #[.agg #[.slice A0f0 x0.f0.length c0f0], .string x1] W fun e w' => e = .returned (.bool true) ∧ Below W.heap.size W w' := by
  have HA0f0 := Aside0.mk hHA0f0
  clear hHA0f0
  have Hp10 := Aside0.mk p10
  clear p10
  have Hp15 := Aside0.mk p15
  clear p15
  have HB := Aside0.mk (Below.refl W.heap.size W)
  have HZ := Aside0.mk (Nat.le_refl W.heap.size)
  have HZ0 := Aside0.mk (Nat.le_refl W.heap.size)
  go_enter Try.func4, Try.ntmps4
  go_wp2_with (first
    | ((with_reducible refine gate_dst (N := 2) rfl ?_)
       refine box_event ?hg (N := 2) ?hd (cs := #[.slice A0f0 x0.f0.length c0f0]) (t := 38) ?hr ?_; (case hd => rfl); (case hg => rfl); (case hr => first | (go_simp; done) | (go_simp; rfl))
       intro gb2 hg w1 hbox hb
       have Lgb2 := Aside0.mk (show W.heap.size ≤ gb2 by rw [hg]; exact HZ.out)
       have n1 := below_step HB.out hb
       have n2 := Nat.le_trans HZ.out hb.size
       clear HB HZ
       have HB := Aside0.mk n1
       have HZ := Aside0.mk n2
       clear n1 n2
       have BK2 := Aside0.mk hbox
       replace HZ := Aside0.mk (show gb2 + 1 ≤ w1.heap.size from blk_lt hbox)
       clear hbox hb hg
       have hx2_0 : w1.cell? ⟨gb2, 0, none⟩ = some (.slice A0f0 x0.f0.length c0f0) := (blk_cell BK2.out 0).trans rfl)
    | ((with_reducible refine gate_callee (f := 19) rfl ?_)
       refine goesL_ (some 21) rfl rfl Try.func19 (by kernel_rfl) rfl #[.agg #[.slice A0f0 x0.f0.length c0f0], .int .i64 1048576] rfl (by (try simp only [List.map_toArray, List.map_cons, List.map_nil]); first | done | rfl) ?_
       have hh := p1
       obtain ⟨kq3, eq3⟩ := hh
       (with_reducible refine (laws_szSchema.calls kq3 _ _ (x0.f0) 1048576 left0 _ (Kd.C_below HA0f0.out HB.out) kHA0f0 eq3).mono ?_)
       rintro e w2 ⟨rfl, hb⟩
       refine ⟨_, rfl, ?_⟩
       clear hx2_0
       have n1 := blk_below BK2.out hb
       have n2 := below_step HB.out hb
       have n3 := Nat.le_trans HZ.out hb.size
       clear BK2 HB HZ
       have BK2 := Aside0.mk n1
       have HB := Aside0.mk n2
       have HZ := Aside0.mk n3
       clear n1 n2 n3
       clear hb
       have hx2_0 : w2.cell? ⟨gb2, 0, none⟩ = some (.slice A0f0 x0.f0.length c0f0) := (blk_cell BK2.out 0).trans rfl)
    | ((with_reducible refine gate_callee (f := 21) rfl ?_)
       refine goesL_ (some 26) rfl rfl Try.func21 (by kernel_rfl) rfl #[.agg #[.slice A0f0 x0.f0.length c0f0]] rfl (by (try simp only [List.map_toArray, List.map_cons, List.map_nil]); first | done | rfl) ?_
       have hh := p3
       obtain ⟨kq5, eq5⟩ := hh
       (with_reducible refine (laws_toSchema.calls kq5 _ _ (x0.f0) (y0.f0) _ (Kd.C_below HA0f0.out HB.out) kHA0f0 eq5).mono ?_)
       rintro e w4 ⟨u0, rfl, ho0, hb⟩
       refine ⟨_, rfl, ?_⟩
       clear hx2_0
       obtain ⟨n7, en7⟩ : ∃ n, n = w2.heap.size := ⟨_, rfl⟩
       obtain ⟨n8, en8⟩ : ∃ n, n = w4.heap.size := ⟨_, rfl⟩
       have En7 := Aside0.mk en7; have En8 := Aside0.mk en8
       clear en7 en8
       have Hq6f0 := Aside0.mk (Ow.S_iv (base := W.heap.size) ho0 En7.out En8.out (by have := HZ.out; have := Lgb2.out; have := En7.out; omega))
       clear ho0
       obtain ⟨Aq6f0, cq6f0, ea⟩ := Kd.S_slice Hq6f0.out
       subst ea
       have Ln7 := Aside0.mk (show (gb2 + 1) ≤ n7 ∧ n7 ≤ n8 by have := HZ.out; have := hb.size; have := En7.out; have := En8.out; omega)
       have n1 := blk_below BK2.out hb
       have n2 := below_step HB.out hb
       have n3 := Nat.le_trans HZ.out hb.size
       clear BK2 HB HZ
       have BK2 := Aside0.mk n1
       have HB := Aside0.mk n2
       have HZ := Aside0.mk n3
       clear n1 n2 n3
       replace HZ := Aside0.mk (show n8 ≤ w4.heap.size by have := En8.out; omega)
       clear hb)
    | ((with_reducible refine gate_callee (f := 20) rfl ?_)
       refine goesL_ (some 28) rfl rfl Try.func20 (by kernel_rfl) rfl #[.agg #[.slice Aq6f0 y0.f0.length cq6f0], .string x1] rfl (by (try simp only [List.map_toArray, List.map_cons, List.map_nil]); first | done | rfl) ?_
       have hh := p4
       obtain ⟨kq10, eq10⟩ := hh
       (with_reducible refine (spec_RowType.calls kq10 _ _ (y0.f0) x1 (r.f0) (r.f1) (r.f2) b _ (Kd.S_reads' Hq6f0.out).2.2 (Kd.S_reads' Hq6f0.out).2.1 eq10).mono ?_)
       rintro e w9 ⟨u0, u1, rfl, ho0, ho1, hb⟩
       refine ⟨_, rfl, ?_⟩
       obtain ⟨n12, en12⟩ : ∃ n, n = w4.heap.size := ⟨_, rfl⟩
       obtain ⟨n13, en13⟩ : ∃ n, n = w9.heap.size := ⟨_, rfl⟩
       have En12 := Aside0.mk en12; have En13 := Aside0.mk en13
       clear en12 en13
       have Hq11f1 := Aside0.mk (Ow.R_iv (base := W.heap.size) ho0 En12.out En13.out (by have := HZ.out; have := Lgb2.out; have := Ln7.out; have := En12.out; omega))
       clear ho0
       obtain ⟨Aq11f1, cq11f1, ea⟩ := Kd.R_slice Hq11f1.out
       subst ea
       have Hq11f2 := Aside0.mk (Ow.S_iv (base := W.heap.size) ho1 En12.out En13.out (by have := HZ.out; have := Lgb2.out; have := Ln7.out; have := En12.out; omega))
       clear ho1
       obtain ⟨Aq11f2, cq11f2, ea⟩ := Kd.S_slice Hq11f2.out
       subst ea
       have Ln12 := Aside0.mk (show n8 ≤ n12 ∧ n12 ≤ n13 by have := HZ.out; have := hb.size; have := En12.out; have := En13.out; omega)
       have n1 := Kd.S_below Hq6f0.out hb
       have n2 := blk_below BK2.out hb
       have n3 := below_step HB.out hb
       have n4 := Nat.le_trans HZ.out hb.size
       clear Hq6f0 BK2 HB HZ
       have Hq6f0 := Aside0.mk n1
       have BK2 := Aside0.mk n2
       have HB := Aside0.mk n3
       have HZ := Aside0.mk n4
       clear n1 n2 n3 n4
       replace HZ := Aside0.mk (show n13 ≤ w9.heap.size by have := En13.out; omega)
       clear hb)
    | ((with_reducible refine gate_dst (N := 6) rfl ?_)
       refine box_event ?hg (N := 6) ?hd (cs := #[.int .i64 0, .slice none 0 0, .slice none 0 0]) (t := 29) ?hr ?_; (case hd => rfl); (case hg => rfl); (case hr => first | (go_simp; done) | (go_simp; rfl))
       intro gb6 hg w14 hbox hbA
       have HBA := Aside0.mk hbA; have HGA := Aside0.mk hg; have HXA := Aside0.mk hbox
       clear hbA hg hbox
       have hx6_0 : w14.cell? ⟨gb6, 0, none⟩ = some (.int .i64 0) := (blk_cell HXA.out 0).trans rfl
       have hx6_1 : w14.cell? ⟨gb6, 1, none⟩ = some (.slice none 0 0) := (blk_cell HXA.out 1).trans rfl
       have hx6_2 : w14.cell? ⟨gb6, 2, none⟩ = some (.slice none 0 0) := (blk_cell HXA.out 2).trans rfl
       have hf6_0 := blk_frozen HXA.out 0
       have hf6_1 := blk_frozen HXA.out 1
       have hf6_2 := blk_frozen HXA.out 2)
    | ((with_reducible refine gate_store (t := 29) (p := 6) rfl ?_)
       refine store_event (t := 29) (p := 6) (v := ?vo_w15) (w1 := (((w14.setCell ⟨gb6, 0, none⟩ (.int .i64 r.f0)).setCell ⟨gb6, 1, none⟩ (.slice Aq11f1 r.f1.length cq11f1)).setCell ⟨gb6, 2, none⟩ (.slice Aq11f2 r.f2.length cq11f2))) ?hg ?ho ?hn ?hr ?_; (case ho => rfl); (case hg => rfl); (case hn => rfl); (case hr => first | (go_simp; done) | (go_simp; rfl)); intro w15 hw
       have hb : Below w9.heap.size w9 w15 := by rw [hw]; exact below_set (below_set (below_set (HBA.out) (Nat.le_of_eq HGA.out.symm)) (Nat.le_of_eq HGA.out.symm)) (Nat.le_of_eq HGA.out.symm)
       have hbox : w15.heap[gb6]? = some (.cells #[.int .i64 r.f0, .slice Aq11f1 r.f1.length cq11f1, .slice Aq11f2 r.f2.length cq11f2] 29 (0, 0)) := by rw [hw]; exact blk_put (cs := #[.int .i64 r.f0, .slice Aq11f1 r.f1.length cq11f1, .slice none 0 0]) (blk_put (cs := #[.int .i64 r.f0, .slice none 0 0, .slice none 0 0]) (blk_put (cs := #[.int .i64 0, .slice none 0 0, .slice none 0 0]) (HXA.out) 0 (.int .i64 r.f0) rfl) 1 (.slice Aq11f1 r.f1.length cq11f1) rfl) 2 (.slice Aq11f2 r.f2.length cq11f2) rfl
       have Lgb6 := Aside0.mk (show n13 ≤ gb6 by rw [HGA.out]; exact HZ.out)
       clear hw HBA HGA HXA hx6_0 hf6_0 hx6_1 hf6_1 hx6_2 hf6_2
       have n1 := Kd.R_below Hq11f1.out hb
       have n2 := Kd.S_below Hq11f2.out hb
       have n3 := blk_below BK2.out hb
       have n4 := below_step HB.out hb
       have n5 := Nat.le_trans HZ.out hb.size
       clear Hq11f1 Hq11f2 BK2 HB HZ
       have Hq11f1 := Aside0.mk n1
       have Hq11f2 := Aside0.mk n2
       have BK2 := Aside0.mk n3
       have HB := Aside0.mk n4
       have HZ := Aside0.mk n5
       clear n1 n2 n3 n4 n5
       have BK6 := Aside0.mk hbox
       replace HZ := Aside0.mk (show gb6 + 1 ≤ w15.heap.size from blk_lt hbox)
       clear hbox hb
       have hx2_0 : w15.cell? ⟨gb2, 0, none⟩ = some (.slice A0f0 x0.f0.length c0f0) := (blk_cell BK2.out 0).trans rfl)
    | ((with_reducible refine gate_callee (f := 21) rfl ?_)
       refine goesL_ (some 32) rfl rfl Try.func21 (by kernel_rfl) rfl #[.agg #[.slice A0f0 x0.f0.length c0f0]] rfl (by (try simp only [List.map_toArray, List.map_cons, List.map_nil]); first | done | rfl) ?_
       have hh := p3
       obtain ⟨kq17, eq17⟩ := hh
       (with_reducible refine (laws_toSchema.calls kq17 _ _ (x0.f0) (y0.f0) _ (Kd.C_below HA0f0.out HB.out) kHA0f0 eq17).mono ?_)
       rintro e w16 ⟨u0, rfl, ho0, hb⟩
       refine ⟨_, rfl, ?_⟩
       clear hx2_0
       obtain ⟨n19, en19⟩ : ∃ n, n = w15.heap.size := ⟨_, rfl⟩
       obtain ⟨n20, en20⟩ : ∃ n, n = w16.heap.size := ⟨_, rfl⟩
       have En19 := Aside0.mk en19; have En20 := Aside0.mk en20
       clear en19 en20
       have Hq18f0 := Aside0.mk (Ow.S_iv (base := W.heap.size) ho0 En19.out En20.out (by have := HZ.out; have := Lgb2.out; have := Ln7.out; have := Ln12.out; have := Lgb6.out; have := En19.out; omega))
       clear ho0
       obtain ⟨Aq18f0, cq18f0, ea⟩ := Kd.S_slice Hq18f0.out
       subst ea
       have Ln19 := Aside0.mk (show (gb6 + 1) ≤ n19 ∧ n19 ≤ n20 by have := HZ.out; have := hb.size; have := En19.out; have := En20.out; omega)
       have n1 := Kd.R_below Hq11f1.out hb
       have n2 := Kd.S_below Hq11f2.out hb
       have n3 := blk_below BK2.out hb
       have n4 := blk_below BK6.out hb
       have n5 := below_step HB.out hb
       have n6 := Nat.le_trans HZ.out hb.size
       clear Hq11f1 Hq11f2 BK2 BK6 HB HZ
       have Hq11f1 := Aside0.mk n1
       have Hq11f2 := Aside0.mk n2
       have BK2 := Aside0.mk n3
       have BK6 := Aside0.mk n4
       have HB := Aside0.mk n5
       have HZ := Aside0.mk n6
       clear n1 n2 n3 n4 n5 n6
       replace HZ := Aside0.mk (show n20 ≤ w16.heap.size by have := En20.out; omega)
       clear hb)
    | ((with_reducible refine gate_dst (N := 8) rfl ?_)
       refine box_event ?hg (N := 8) ?hd (cs := #[.slice none 0 0]) (t := 43) ?hr ?_; (case hd => rfl); (case hg => rfl); (case hr => first | (go_simp; done) | (go_simp; rfl))
       intro gb8 hg w21 hbox hbA
       have HBA := Aside0.mk hbA; have HGA := Aside0.mk hg; have HXA := Aside0.mk hbox
       clear hbA hg hbox
       have hx8_0 : w21.cell? ⟨gb8, 0, none⟩ = some (.slice none 0 0) := (blk_cell HXA.out 0).trans rfl
       have hf8_0 := blk_frozen HXA.out 0)
    | ((with_reducible refine gate_store (t := 43) (p := 8) rfl ?_)
       refine store_event (t := 43) (p := 8) (v := ?vo_w22) (w1 := (w21.setCell ⟨gb8, 0, none⟩ (.slice Aq18f0 y0.f0.length cq18f0))) ?hg ?ho ?hn ?hr ?_; (case ho => rfl); (case hg => rfl); (case hn => rfl); (case hr => first | (go_simp; done) | (go_simp; rfl)); intro w22 hw
       have hb : Below w16.heap.size w16 w22 := by rw [hw]; exact below_set (HBA.out) (Nat.le_of_eq HGA.out.symm)
       have hbox : w22.heap[gb8]? = some (.cells #[.slice Aq18f0 y0.f0.length cq18f0] 43 (0, 0)) := by rw [hw]; exact blk_put (cs := #[.slice none 0 0]) (HXA.out) 0 (.slice Aq18f0 y0.f0.length cq18f0) rfl
       have Lgb8 := Aside0.mk (show n20 ≤ gb8 by rw [HGA.out]; exact HZ.out)
       clear hw HBA HGA HXA hx8_0 hf8_0
       have n1 := Kd.R_below Hq11f1.out hb
       have n2 := Kd.S_below Hq11f2.out hb
       have n3 := Kd.S_below Hq18f0.out hb
       have n4 := blk_below BK2.out hb
       have n5 := blk_below BK6.out hb
       have n6 := below_step HB.out hb
       have n7 := Nat.le_trans HZ.out hb.size
       clear Hq11f1 Hq11f2 Hq18f0 BK2 BK6 HB HZ
       have Hq11f1 := Aside0.mk n1
       have Hq11f2 := Aside0.mk n2
       have Hq18f0 := Aside0.mk n3
       have BK2 := Aside0.mk n4
       have BK6 := Aside0.mk n5
       have HB := Aside0.mk n6
       have HZ := Aside0.mk n7
       clear n1 n2 n3 n4 n5 n6 n7
       have BK8 := Aside0.mk hbox
       replace HZ := Aside0.mk (show gb8 + 1 ≤ w22.heap.size from blk_lt hbox)
       clear hbox hb
       have hx8_0 : w22.cell? ⟨gb8, 0, none⟩ = some (.slice Aq18f0 y0.f0.length cq18f0) := (blk_cell BK8.out 0).trans rfl)
    | ((with_reducible refine gate_callee (f := 22) rfl ?_)
       refine goesL_ (some 36) rfl rfl Try.func22 (by kernel_rfl) rfl #[.agg #[.slice Aq18f0 y0.f0.length cq18f0], .string x1] rfl (by (try simp only [List.map_toArray, List.map_cons, List.map_nil]); first | done | rfl) ?_
       have hh := p5
       obtain ⟨kq24, eq24⟩ := hh
       (with_reducible refine (impl_RowType.calls kq24 _ _ (y0.f0) x1 (r.f0) (r.f1) (r.f2) b _ (Kd.S_reads' Hq18f0.out).2.2 (Kd.S_reads' Hq18f0.out).2.1 eq24).mono ?_)
       rintro e w23 ⟨u0, u1, rfl, ho0, ho1, hb⟩
       refine ⟨_, rfl, ?_⟩
       clear hx8_0
       obtain ⟨n26, en26⟩ : ∃ n, n = w22.heap.size := ⟨_, rfl⟩
       obtain ⟨n27, en27⟩ : ∃ n, n = w23.heap.size := ⟨_, rfl⟩
       have En26 := Aside0.mk en26; have En27 := Aside0.mk en27
       clear en26 en27
       have Hq25f1 := Aside0.mk (Ow.R_iv (base := W.heap.size) ho0 En26.out En27.out (by have := HZ.out; have := Lgb2.out; have := Ln7.out; have := Ln12.out; have := Lgb6.out; have := Ln19.out; have := Lgb8.out; have := En26.out; omega))
       clear ho0
       obtain ⟨Aq25f1, cq25f1, ea⟩ := Kd.R_slice Hq25f1.out
       subst ea
       have Hq25f2 := Aside0.mk (Ow.S_iv (base := W.heap.size) ho1 En26.out En27.out (by have := HZ.out; have := Lgb2.out; have := Ln7.out; have := Ln12.out; have := Lgb6.out; have := Ln19.out; have := Lgb8.out; have := En26.out; omega))
       clear ho1
       obtain ⟨Aq25f2, cq25f2, ea⟩ := Kd.S_slice Hq25f2.out
       subst ea
       have Ln26 := Aside0.mk (show (gb8 + 1) ≤ n26 ∧ n26 ≤ n27 by have := HZ.out; have := hb.size; have := En26.out; have := En27.out; omega)
       have n1 := Kd.R_below Hq11f1.out hb
       have n2 := Kd.S_below Hq11f2.out hb
       have n3 := Kd.S_below Hq18f0.out hb
       have n4 := blk_below BK2.out hb
       have n5 := blk_below BK6.out hb
       have n6 := blk_below BK8.out hb
       have n7 := below_step HB.out hb
       have n8 := Nat.le_trans HZ.out hb.size
       clear Hq11f1 Hq11f2 Hq18f0 BK2 BK6 BK8 HB HZ
       have Hq11f1 := Aside0.mk n1
       have Hq11f2 := Aside0.mk n2
       have Hq18f0 := Aside0.mk n3
       have BK2 := Aside0.mk n4
       have BK6 := Aside0.mk n5
       have BK8 := Aside0.mk n6
       have HB := Aside0.mk n7
       have HZ := Aside0.mk n8
       clear n1 n2 n3 n4 n5 n6 n7 n8
       replace HZ := Aside0.mk (show n27 ≤ w23.heap.size by have := En27.out; omega)
       clear hb)
    | ((with_reducible refine gate_dst (N := 9) rfl ?_)
       refine box_event ?hg (N := 9) ?hd (cs := #[.int .i64 0, .slice none 0 0, .slice none 0 0]) (t := 29) ?hr ?_; (case hd => rfl); (case hg => rfl); (case hr => first | (go_simp; done) | (go_simp; rfl))
       intro gb9 hg w28 hbox hbA
       have HBA := Aside0.mk hbA; have HGA := Aside0.mk hg; have HXA := Aside0.mk hbox
       clear hbA hg hbox
       have hx9_0 : w28.cell? ⟨gb9, 0, none⟩ = some (.int .i64 0) := (blk_cell HXA.out 0).trans rfl
       have hx9_1 : w28.cell? ⟨gb9, 1, none⟩ = some (.slice none 0 0) := (blk_cell HXA.out 1).trans rfl
       have hx9_2 : w28.cell? ⟨gb9, 2, none⟩ = some (.slice none 0 0) := (blk_cell HXA.out 2).trans rfl
       have hf9_0 := blk_frozen HXA.out 0
       have hf9_1 := blk_frozen HXA.out 1
       have hf9_2 := blk_frozen HXA.out 2)
    | ((with_reducible refine gate_store (t := 29) (p := 9) rfl ?_)
       refine store_event (t := 29) (p := 9) (v := ?vo_w29) (w1 := (((w28.setCell ⟨gb9, 0, none⟩ (.int .i64 r.f0)).setCell ⟨gb9, 1, none⟩ (.slice Aq25f1 r.f1.length cq25f1)).setCell ⟨gb9, 2, none⟩ (.slice Aq25f2 r.f2.length cq25f2))) ?hg ?ho ?hn ?hr ?_; (case ho => rfl); (case hg => rfl); (case hn => rfl); (case hr => first | (go_simp; done) | (go_simp; rfl)); intro w29 hw
       have hb : Below w23.heap.size w23 w29 := by rw [hw]; exact below_set (below_set (below_set (HBA.out) (Nat.le_of_eq HGA.out.symm)) (Nat.le_of_eq HGA.out.symm)) (Nat.le_of_eq HGA.out.symm)
       have hbox : w29.heap[gb9]? = some (.cells #[.int .i64 r.f0, .slice Aq25f1 r.f1.length cq25f1, .slice Aq25f2 r.f2.length cq25f2] 29 (0, 0)) := by rw [hw]; exact blk_put (cs := #[.int .i64 r.f0, .slice Aq25f1 r.f1.length cq25f1, .slice none 0 0]) (blk_put (cs := #[.int .i64 r.f0, .slice none 0 0, .slice none 0 0]) (blk_put (cs := #[.int .i64 0, .slice none 0 0, .slice none 0 0]) (HXA.out) 0 (.int .i64 r.f0) rfl) 1 (.slice Aq25f1 r.f1.length cq25f1) rfl) 2 (.slice Aq25f2 r.f2.length cq25f2) rfl
       have Lgb9 := Aside0.mk (show n27 ≤ gb9 by rw [HGA.out]; exact HZ.out)
       clear hw HBA HGA HXA hx9_0 hf9_0 hx9_1 hf9_1 hx9_2 hf9_2
       have n1 := Kd.R_below Hq11f1.out hb
       have n2 := Kd.S_below Hq11f2.out hb
       have n3 := Kd.S_below Hq18f0.out hb
       have n4 := Kd.R_below Hq25f1.out hb
       have n5 := Kd.S_below Hq25f2.out hb
       have n6 := blk_below BK2.out hb
       have n7 := blk_below BK6.out hb
       have n8 := blk_below BK8.out hb
       have n9 := below_step HB.out hb
       have n10 := Nat.le_trans HZ.out hb.size
       clear Hq11f1 Hq11f2 Hq18f0 Hq25f1 Hq25f2 BK2 BK6 BK8 HB HZ
       have Hq11f1 := Aside0.mk n1
       have Hq11f2 := Aside0.mk n2
       have Hq18f0 := Aside0.mk n3
       have Hq25f1 := Aside0.mk n4
       have Hq25f2 := Aside0.mk n5
       have BK2 := Aside0.mk n6
       have BK6 := Aside0.mk n7
       have BK8 := Aside0.mk n8
       have HB := Aside0.mk n9
       have HZ := Aside0.mk n10
       clear n1 n2 n3 n4 n5 n6 n7 n8 n9 n10
       have BK9 := Aside0.mk hbox
       replace HZ := Aside0.mk (show gb9 + 1 ≤ w29.heap.size from blk_lt hbox)
       clear hbox hb
       have hx9_0 : w29.cell? ⟨gb9, 0, none⟩ = some (.int .i64 r.f0) := (blk_cell BK9.out 0).trans rfl
       have hx9_1 : w29.cell? ⟨gb9, 1, none⟩ = some (.slice Aq25f1 r.f1.length cq25f1) := (blk_cell BK9.out 1).trans rfl
       have hx9_2 : w29.cell? ⟨gb9, 2, none⟩ = some (.slice Aq25f2 r.f2.length cq25f2) := (blk_cell BK9.out 2).trans rfl
       have hx6_0 : w29.cell? ⟨gb6, 0, none⟩ = some (.int .i64 r.f0) := (blk_cell BK6.out 0).trans rfl
       have hx6_1 : w29.cell? ⟨gb6, 1, none⟩ = some (.slice Aq11f1 r.f1.length cq11f1) := (blk_cell BK6.out 1).trans rfl
       have hx6_2 : w29.cell? ⟨gb6, 2, none⟩ = some (.slice Aq11f2 r.f2.length cq11f2) := (blk_cell BK6.out 2).trans rfl)
    | ((with_reducible refine gate_callee (f := 16) rfl ?_)
       refine goesL_ (some 41) rfl rfl Try.func16 (by kernel_rfl) rfl #[.agg #[.int .i64 r.f0, .slice Aq25f1 r.f1.length cq25f1, .slice Aq25f2 r.f2.length cq25f2], .agg #[.int .i64 r.f0, .slice Aq11f1 r.f1.length cq11f1, .slice Aq11f2 r.f2.length cq11f2]] rfl (by (try simp only [List.map_toArray, List.map_cons, List.map_nil]); first | done | rfl) ?_
       have hh := p6
       obtain ⟨kq31, eq31⟩ := hh
       (with_reducible refine (laws_eqType.calls kq31 (r.f0) _ _ (r.f1) _ _ (r.f2) (r.f0) _ _ (r.f1) _ _ (r.f2) true _ (Kd.R_reads' Hq25f1.out).2.2 (Kd.R_reads' Hq25f1.out).2.1 (Kd.S_reads' Hq25f2.out).2.2 (Kd.S_reads' Hq25f2.out).2.1 (Kd.R_reads' Hq11f1.out).2.2 (Kd.R_reads' Hq11f1.out).2.1 (Kd.S_reads' Hq11f2.out).2.2 (Kd.S_reads' Hq11f2.out).2.1 eq31).mono ?_)
       rintro e w30 ⟨rfl, hb⟩
       refine ⟨_, rfl, ?_⟩
       clear hx9_0 hx9_1 hx9_2 hx6_0 hx6_1 hx6_2
       have n1 := Kd.R_below Hq11f1.out hb
       have n2 := Kd.S_below Hq11f2.out hb
       have n3 := Kd.S_below Hq18f0.out hb
       have n4 := Kd.R_below Hq25f1.out hb
       have n5 := Kd.S_below Hq25f2.out hb
       have n6 := blk_below BK2.out hb
       have n7 := blk_below BK6.out hb
       have n8 := blk_below BK8.out hb
       have n9 := blk_below BK9.out hb
       have n10 := below_step HB.out hb
       have n11 := Nat.le_trans HZ.out hb.size
       clear Hq11f1 Hq11f2 Hq18f0 Hq25f1 Hq25f2 BK2 BK6 BK8 BK9 HB HZ
       have Hq11f1 := Aside0.mk n1
       have Hq11f2 := Aside0.mk n2
       have Hq18f0 := Aside0.mk n3
       have Hq25f1 := Aside0.mk n4
       have Hq25f2 := Aside0.mk n5
       have BK2 := Aside0.mk n6
       have BK6 := Aside0.mk n7
       have BK8 := Aside0.mk n8
       have BK9 := Aside0.mk n9
       have HB := Aside0.mk n10
       have HZ := Aside0.mk n11
       clear n1 n2 n3 n4 n5 n6 n7 n8 n9 n10 n11
       clear hb
       have hx8_0 : w30.cell? ⟨gb8, 0, none⟩ = some (.slice Aq18f0 y0.f0.length cq18f0) := (blk_cell BK8.out 0).trans rfl
       have hx2_0 : w30.cell? ⟨gb2, 0, none⟩ = some (.slice A0f0 x0.f0.length c0f0) := (blk_cell BK2.out 0).trans rfl))
  replace Hq11f1 := Aside0.mk (Kd.R_drew Hq11f1.out)
  replace Hq11f2 := Aside0.mk (Kd.S_drew Hq11f2.out)
  replace Hq18f0 := Aside0.mk (Kd.S_drew Hq18f0.out)
  replace Hq25f1 := Aside0.mk (Kd.R_drew Hq25f1.out)
  replace Hq25f2 := Aside0.mk (Kd.S_drew Hq25f2.out)
  replace BK2 := Aside0.mk (blk_drew BK2.out)
  replace BK6 := Aside0.mk (blk_drew BK6.out)
  replace BK8 := Aside0.mk (blk_drew BK8.out)
  replace BK9 := Aside0.mk (blk_drew BK9.out)
  replace HB := Aside0.mk (below_drew1 HB.out)
  replace HZ : Aside0 ((gb9 + 1) ≤ w30.drew.heap.size) := HZ
  refine start_ (n := 5) (S := fun w' => w'.cell? ⟨gb8, 0, none⟩ = some (.slice Aq18f0 y0.f0.length cq18f0) ∧ w'.cell? ⟨gb2, 0, none⟩ = some (.slice A0f0 x0.f0.length c0f0)) (ds := []) #[false, false, false, false, false] (by kernel_rfl) rfl rfl ⟨(blk_cell BK8.out 0).trans rfl, (blk_cell BK2.out 0).trans rfl⟩ (fun hHeld => ?_)
  generalize w30.drew = w32 at Hq11f1 Hq11f2 Hq18f0 Hq25f1 Hq25f2 BK2 BK6 BK8 BK9 HB HZ hHeld ⊢
  refine take_ (i := 0) (N := some 48) (v := ?_) (a' := ?_) #[true, false, false, false, false] rfl rfl (by kernel_rfl) (fun _ _ _ h => h) (Or.inl ⟨by rfl, ?_⟩) hHeld ?_ ?_
  rotate_left
  · rintro w' ⟨s0, s1⟩
    go_simp
    with_reducible rfl
  rotate_left
  · simp only [Act.put, List.setIfInBounds_toArray, List.set_cons_zero, List.set_cons_succ, i64_w, i32_w]
    rfl
  refine take_ (i := 1) (N := some 49) (v := ?_) (a' := ?_) #[true, true, false, false, false] rfl rfl (by kernel_rfl) (fun _ _ _ h => h) (Or.inl ⟨by rfl, ?_⟩) hHeld ?_ ?_
  rotate_left
  · rintro w' ⟨s0, s1⟩
    go_simp
    with_reducible rfl
  rotate_left
  · simp only [Act.put, List.setIfInBounds_toArray, List.set_cons_zero, List.set_cons_succ, i64_w, i32_w]
    rfl
  have hh := p3
  obtain ⟨kq33, eq33⟩ := hh
  have Eq33 := Aside0.mk eq33
  clear eq33
  refine one_ (i := 2) (N := some 50) #[true, true, true, false, false] rfl rfl (by kernel_rfl) (by decide) (fun K hK => ?_)
  refine goes_ Try.func21 (by kernel_rfl) rfl #[.agg #[.slice A0f0 x0.f0.length c0f0]] (by rfl) rfl rfl (by (try simp only [List.map_toArray, List.map_cons, List.map_nil]); first | done | rfl) ?_
  with_reducible refine (laws_toSchema.calls kq33 _ _ (x0.f0) (y0.f0) _ (Kd.C_below HA0f0.out HB.out) kHA0f0 Eq33.out).mono ?_
  rintro e w36 ⟨u0, rfl, ho0, hb⟩
  refine ⟨_, rfl, ?_⟩
  obtain ⟨n34, en34⟩ : ∃ n, n = w32.heap.size := ⟨_, rfl⟩
  obtain ⟨n35, en35⟩ : ∃ n, n = w36.heap.size := ⟨_, rfl⟩
  have En34 := Aside0.mk en34; have En35 := Aside0.mk en35
  clear en34 en35
  have Hq33f0 := Aside0.mk (Ow.S_iv (base := W.heap.size) ho0 En34.out En35.out (by have := HZ.out; have := Lgb2.out; have := Ln7.out; have := Ln12.out; have := Lgb6.out; have := Ln19.out; have := Lgb8.out; have := Ln26.out; have := Lgb9.out; have := En34.out; omega))
  clear ho0
  obtain ⟨Aq33f0, cq33f0, ea⟩ := Kd.S_slice Hq33f0.out
  subst ea
  have Ln34 := Aside0.mk (show (gb9 + 1) ≤ n34 ∧ n34 ≤ n35 by have := HZ.out; have := hb.size; have := En34.out; have := En35.out; omega)
  have n1 := Kd.R_below Hq11f1.out hb
  have n2 := Kd.S_below Hq11f2.out hb
  have n3 := Kd.S_below Hq18f0.out hb
  have n4 := Kd.R_below Hq25f1.out hb
  have n5 := Kd.S_below Hq25f2.out hb
  have n6 := blk_below BK2.out hb
  have n7 := blk_below BK6.out hb
  have n8 := blk_below BK8.out hb
  have n9 := blk_below BK9.out hb
  have n10 := below_step HB.out hb
  have n11 := Nat.le_trans HZ.out hb.size
  clear Hq11f1 Hq11f2 Hq18f0 Hq25f1 Hq25f2 BK2 BK6 BK8 BK9 HB HZ
  have Hq11f1 := Aside0.mk n1
  have Hq11f2 := Aside0.mk n2
  have Hq18f0 := Aside0.mk n3
  have Hq25f1 := Aside0.mk n4
  have Hq25f2 := Aside0.mk n5
  have BK2 := Aside0.mk n6
  have BK6 := Aside0.mk n7
  have BK8 := Aside0.mk n8
  have BK9 := Aside0.mk n9
  have HB := Aside0.mk n10
  have HZ := Aside0.mk n11
  clear n1 n2 n3 n4 n5 n6 n7 n8 n9 n10 n11
  replace HZ := Aside0.mk (show n35 ≤ w36.heap.size by have := En35.out; omega)
  clear hb
  refine hK.out _ _ ⟨(blk_cell BK8.out 0).trans rfl, (blk_cell BK2.out 0).trans rfl⟩ (fun hHeld => ?_)
  clear hK K
  refine norm_ (a' := ?_) ?_ ?_
  rotate_left
  · show Act.put _ (some 50) _ = _
    simp only [Act.put, List.setIfInBounds_toArray, List.set_cons_zero, List.set_cons_succ, i64_w, i32_w]
    rfl
  have hh := p7
  obtain ⟨kq38, eq38⟩ := hh
  have Eq38 := Aside0.mk eq38
  clear eq38
  refine one_ (i := 3) (N := some 51) #[true, true, true, true, false] rfl rfl (by kernel_rfl) (by decide) (fun K hK => ?_)
  refine goes_ Try.func23 (by kernel_rfl) rfl #[.agg #[.slice Aq18f0 y0.f0.length cq18f0], .agg #[.slice Aq33f0 y0.f0.length cq33f0]] (by rfl) rfl rfl (by (try simp only [List.map_toArray, List.map_cons, List.map_nil]); first | done | rfl) ?_
  with_reducible refine (laws_eqSchema.calls kq38 _ _ (y0.f0) _ _ (y0.f0) true _ (Kd.S_reads' Hq18f0.out).2.2 (Kd.S_reads' Hq18f0.out).2.1 (Kd.S_reads' Hq33f0.out).2.2 (Kd.S_reads' Hq33f0.out).2.1 Eq38.out).mono ?_
  rintro e w37 ⟨rfl, hb⟩
  refine ⟨_, rfl, ?_⟩
  have n1 := Kd.R_below Hq11f1.out hb
  have n2 := Kd.S_below Hq11f2.out hb
  have n3 := Kd.S_below Hq18f0.out hb
  have n4 := Kd.R_below Hq25f1.out hb
  have n5 := Kd.S_below Hq25f2.out hb
  have n6 := blk_below BK2.out hb
  have n7 := blk_below BK6.out hb
  have n8 := blk_below BK8.out hb
  have n9 := blk_below BK9.out hb
  have n10 := below_step HB.out hb
  have n11 := Nat.le_trans HZ.out hb.size
  clear Hq11f1 Hq11f2 Hq18f0 Hq25f1 Hq25f2 BK2 BK6 BK8 BK9 HB HZ
  have Hq11f1 := Aside0.mk n1
  have Hq11f2 := Aside0.mk n2
  have Hq18f0 := Aside0.mk n3
  have Hq25f1 := Aside0.mk n4
  have Hq25f2 := Aside0.mk n5
  have BK2 := Aside0.mk n6
  have BK6 := Aside0.mk n7
  have BK8 := Aside0.mk n8
  have BK9 := Aside0.mk n9
  have HB := Aside0.mk n10
  have HZ := Aside0.mk n11
  clear n1 n2 n3 n4 n5 n6 n7 n8 n9 n10 n11
  clear hb
  refine hK.out _ _ ⟨(blk_cell BK8.out 0).trans rfl, (blk_cell BK2.out 0).trans rfl⟩ (fun hHeld => ?_)
  clear hK K
  refine norm_ (a' := ?_) ?_ ?_
  rotate_left
  · show Act.put _ (some 51) _ = _
    simp only [Act.put, List.setIfInBounds_toArray, List.set_cons_zero, List.set_cons_succ, i64_w, i32_w]
    rfl
  refine pure_ (i := 4) (N := some 52) (v := ?_) (a' := ?_) #[true, true, true, true, true] rfl rfl (by kernel_rfl) (fun _ _ _ h => h) (Or.inl ⟨by rfl, ?_⟩) ?_ ?_
  rotate_left
  · intro w'
    go_simp
    with_reducible rfl
  rotate_left
  · simp only [Act.put, List.setIfInBounds_toArray, List.set_cons_zero, List.set_cons_succ, i64_w, i32_w]
    rfl
  refine done_ (by kernel_rfl) ?_
  clear hHeld
  have hx8_0 : w37.cell? ⟨gb8, 0, none⟩ = some (.slice Aq18f0 y0.f0.length cq18f0) := (blk_cell BK8.out 0).trans rfl
  go_wp2_with (first
    | ((with_reducible refine gate_callee (f := 24) rfl ?_)
       refine goesL_ (some 55) rfl rfl Try.func24 (by kernel_rfl) rfl #[.agg #[.slice Aq18f0 y0.f0.length cq18f0], .int .i64 1] rfl (by (try simp only [List.map_toArray, List.map_cons, List.map_nil]); first | done | rfl) ?_
       (with_reducible refine (markSchema_own y0 p8 1 (by decide) p9 _ (fun k => (True) ∧ n19 ≤ k ∧ k < n20) W _ HB.out Hq18f0.out (fun k hk => by have := HZ.out; have := Lgb2.out; have := Ln7.out; have := Ln12.out; have := Lgb6.out; have := Ln19.out; have := Lgb8.out; have := Ln26.out; have := Lgb9.out; have := Ln34.out; have := hk.2; omega)).mono ?_)
       rintro e w39 ⟨he, hr0, hb2, hk⟩
       obtain rfl : e = .returned (.int .i64 m0) := by rw [he, Hp10.out]
       clear he
       refine ⟨_, rfl, ?_⟩
       clear hx8_0
       clear Hq18f0
       have n1 := Kd.R_kept Hq11f1.out hk (fun k hk h1 => by have := Lgb2.out; have := Ln7.out; have := Ln12.out; have := Lgb6.out; have := Ln19.out; have := Lgb8.out; have := Ln26.out; have := Lgb9.out; have := Ln34.out; have := hk.2; have := h1.2; omega)
       have n2 := Kd.S_kept Hq11f2.out hk (fun k hk h1 => by have := Lgb2.out; have := Ln7.out; have := Ln12.out; have := Lgb6.out; have := Ln19.out; have := Lgb8.out; have := Ln26.out; have := Lgb9.out; have := Ln34.out; have := hk.2; have := h1.2; omega)
       have n3 := Kd.R_kept Hq25f1.out hk (fun k hk h1 => by have := Lgb2.out; have := Ln7.out; have := Ln12.out; have := Lgb6.out; have := Ln19.out; have := Lgb8.out; have := Ln26.out; have := Lgb9.out; have := Ln34.out; have := hk.2; have := h1.2; omega)
       have n4 := Kd.S_kept Hq25f2.out hk (fun k hk h1 => by have := Lgb2.out; have := Ln7.out; have := Ln12.out; have := Lgb6.out; have := Ln19.out; have := Lgb8.out; have := Ln26.out; have := Lgb9.out; have := Ln34.out; have := hk.2; have := h1.2; omega)
       have n5 := blk_kept BK2.out hk (fun h1 => by have := Lgb2.out; have := Ln7.out; have := Ln12.out; have := Lgb6.out; have := Ln19.out; have := Lgb8.out; have := Ln26.out; have := Lgb9.out; have := Ln34.out; have := h1.2; omega)
       have n6 := blk_kept BK6.out hk (fun h1 => by have := Lgb2.out; have := Ln7.out; have := Ln12.out; have := Lgb6.out; have := Ln19.out; have := Lgb8.out; have := Ln26.out; have := Lgb9.out; have := Ln34.out; have := h1.2; omega)
       have n7 := blk_kept BK8.out hk (fun h1 => by have := Lgb2.out; have := Ln7.out; have := Ln12.out; have := Lgb6.out; have := Ln19.out; have := Lgb8.out; have := Ln26.out; have := Lgb9.out; have := Ln34.out; have := h1.2; omega)
       have n8 := blk_kept BK9.out hk (fun h1 => by have := Lgb2.out; have := Ln7.out; have := Ln12.out; have := Lgb6.out; have := Ln19.out; have := Lgb8.out; have := Ln26.out; have := Lgb9.out; have := Ln34.out; have := h1.2; omega)
       have n9 := Nat.le_trans HZ.out hk.1
       clear Hq11f1 Hq11f2 Hq25f1 Hq25f2 BK2 BK6 BK8 BK9 HZ
       have Hq11f1 := Aside0.mk n1
       have Hq11f2 := Aside0.mk n2
       have Hq25f1 := Aside0.mk n3
       have Hq25f2 := Aside0.mk n4
       have BK2 := Aside0.mk n5
       have BK6 := Aside0.mk n6
       have BK8 := Aside0.mk n7
       have BK9 := Aside0.mk n8
       have HZ := Aside0.mk n9
       clear n1 n2 n3 n4 n5 n6 n7 n8 n9
       have n1 := hb2; clear HB; have HB := Aside0.mk n1; clear n1
       have Hq18f0 := Aside0.mk hr0
       clear hb2 hk hr0
       have hx9_0 : w39.cell? ⟨gb9, 0, none⟩ = some (.int .i64 r.f0) := (blk_cell BK9.out 0).trans rfl
       have hx9_1 : w39.cell? ⟨gb9, 1, none⟩ = some (.slice Aq25f1 r.f1.length cq25f1) := (blk_cell BK9.out 1).trans rfl
       have hx9_2 : w39.cell? ⟨gb9, 2, none⟩ = some (.slice Aq25f2 r.f2.length cq25f2) := (blk_cell BK9.out 2).trans rfl
       have hx6_0 : w39.cell? ⟨gb6, 0, none⟩ = some (.int .i64 r.f0) := (blk_cell BK6.out 0).trans rfl
       have hx6_1 : w39.cell? ⟨gb6, 1, none⟩ = some (.slice Aq11f1 r.f1.length cq11f1) := (blk_cell BK6.out 1).trans rfl
       have hx6_2 : w39.cell? ⟨gb6, 2, none⟩ = some (.slice Aq11f2 r.f2.length cq11f2) := (blk_cell BK6.out 2).trans rfl)
    | (go_at_call 16
       have hh := p6
       obtain ⟨kq42, eq42⟩ := hh
       (with_reducible refine (laws_eqType.calls kq42 (r.f0) _ _ (r.f1) _ _ (r.f2) (r.f0) _ _ (r.f1) _ _ (r.f2) true _ (Kd.R_reads' Hq25f1.out).2.2 (Kd.R_reads' Hq25f1.out).2.1 (Kd.S_reads' Hq25f2.out).2.2 (Kd.S_reads' Hq25f2.out).2.1 (Kd.R_reads' Hq11f1.out).2.2 (Kd.R_reads' Hq11f1.out).2.1 (Kd.S_reads' Hq11f2.out).2.2 (Kd.S_reads' Hq11f2.out).2.1 eq42).mono ?_)
       rintro e w41 ⟨rfl, hb⟩
       clear hx9_0 hx9_1 hx9_2 hx6_0 hx6_1 hx6_2
       have n1 := Kd.R_below Hq11f1.out hb
       have n2 := Kd.S_below Hq11f2.out hb
       have n3 := Kd.S_below Hq18f0.out hb
       have n4 := Kd.R_below Hq25f1.out hb
       have n5 := Kd.S_below Hq25f2.out hb
       have n6 := blk_below BK2.out hb
       have n7 := blk_below BK6.out hb
       have n8 := blk_below BK8.out hb
       have n9 := blk_below BK9.out hb
       have n10 := below_step HB.out hb
       have n11 := Nat.le_trans HZ.out hb.size
       clear Hq11f1 Hq11f2 Hq18f0 Hq25f1 Hq25f2 BK2 BK6 BK8 BK9 HB HZ
       have Hq11f1 := Aside0.mk n1
       have Hq11f2 := Aside0.mk n2
       have Hq18f0 := Aside0.mk n3
       have Hq25f1 := Aside0.mk n4
       have Hq25f2 := Aside0.mk n5
       have BK2 := Aside0.mk n6
       have BK6 := Aside0.mk n7
       have BK8 := Aside0.mk n8
       have BK9 := Aside0.mk n9
       have HB := Aside0.mk n10
       have HZ := Aside0.mk n11
       clear n1 n2 n3 n4 n5 n6 n7 n8 n9 n10 n11
       clear hb
       have hx9_0 : w41.cell? ⟨gb9, 0, none⟩ = some (.int .i64 r.f0) := (blk_cell BK9.out 0).trans rfl
       have hx9_1 : w41.cell? ⟨gb9, 1, none⟩ = some (.slice Aq25f1 r.f1.length cq25f1) := (blk_cell BK9.out 1).trans rfl
       have hx9_2 : w41.cell? ⟨gb9, 2, none⟩ = some (.slice Aq25f2 r.f2.length cq25f2) := (blk_cell BK9.out 2).trans rfl)
    | ((with_reducible refine gate_callee (f := 17) rfl ?_)
       refine goesL_ (some 71) rfl rfl Try.func17 (by kernel_rfl) rfl #[.agg #[.int .i64 r.f0, .slice Aq25f1 r.f1.length cq25f1, .slice Aq25f2 r.f2.length cq25f2], .int .i64 1] rfl (by (try simp only [List.map_toArray, List.map_cons, List.map_nil]); first | done | rfl) ?_
       have hd_ : ∀ k, (fun k => some k = (.slice Aq25f1 r.f1.length cq25f1 : Value).ownBlock ∧ True ∧ n26 ≤ k ∧ k < n27) k → ¬ (fun k => (some k ≠ (.slice Aq25f1 r.f1.length cq25f1 : Value).ownBlock) ∧ n26 ≤ k ∧ k < n27) k := fun k h1 h2 => h2.1 h1.1
       (with_reducible refine (markType_own r p12 p13 1 (by decide) p14 _ _ (fun k => some k = (.slice Aq25f1 r.f1.length cq25f1 : Value).ownBlock ∧ True ∧ n26 ≤ k ∧ k < n27) (fun k => (some k ≠ (.slice Aq25f1 r.f1.length cq25f1 : Value).ownBlock) ∧ n26 ≤ k ∧ k < n27) W _ HB.out (Kd.R_mono (Kd.R_tight2 rfl Hq25f1.out) (fun k hk => hk)) Hq25f2.out (fun k hk => by have := HZ.out; have := Lgb2.out; have := Ln7.out; have := Ln12.out; have := Lgb6.out; have := Ln19.out; have := Lgb8.out; have := Ln26.out; have := Lgb9.out; have := Ln34.out; have := hk.2; omega) (fun k hk => by have := HZ.out; have := Lgb2.out; have := Ln7.out; have := Ln12.out; have := Lgb6.out; have := Ln19.out; have := Lgb8.out; have := Ln26.out; have := Lgb9.out; have := Ln34.out; have := hk.2; omega) hd_).mono ?_)
       rintro e w43 ⟨he, hr0, hr1, hb2, hk⟩
       obtain rfl : e = .returned (.int .i64 m1) := by rw [he, Hp15.out]
       clear he
       clear hd_
       refine ⟨_, rfl, ?_⟩
       clear hx9_0 hx9_1 hx9_2
       clear Hq25f1 Hq25f2
       have n1 := Kd.R_kept Hq11f1.out hk (fun k hk h1 => by have := Lgb2.out; have := Ln7.out; have := Ln12.out; have := Lgb6.out; have := Ln19.out; have := Lgb8.out; have := Ln26.out; have := Lgb9.out; have := Ln34.out; have := hk.2; rcases h1 with h1 | h1 <;> have := h1.2 <;> omega)
       have n2 := Kd.S_kept Hq11f2.out hk (fun k hk h1 => by have := Lgb2.out; have := Ln7.out; have := Ln12.out; have := Lgb6.out; have := Ln19.out; have := Lgb8.out; have := Ln26.out; have := Lgb9.out; have := Ln34.out; have := hk.2; rcases h1 with h1 | h1 <;> have := h1.2 <;> omega)
       have n3 := Kd.S_kept Hq18f0.out hk (fun k hk h1 => by have := Lgb2.out; have := Ln7.out; have := Ln12.out; have := Lgb6.out; have := Ln19.out; have := Lgb8.out; have := Ln26.out; have := Lgb9.out; have := Ln34.out; have := hk.2; rcases h1 with h1 | h1 <;> have := h1.2 <;> omega)
       have n4 := blk_kept BK2.out hk (fun h1 => by have := Lgb2.out; have := Ln7.out; have := Ln12.out; have := Lgb6.out; have := Ln19.out; have := Lgb8.out; have := Ln26.out; have := Lgb9.out; have := Ln34.out; rcases h1 with h1 | h1 <;> have := h1.2 <;> omega)
       have n5 := blk_kept BK6.out hk (fun h1 => by have := Lgb2.out; have := Ln7.out; have := Ln12.out; have := Lgb6.out; have := Ln19.out; have := Lgb8.out; have := Ln26.out; have := Lgb9.out; have := Ln34.out; rcases h1 with h1 | h1 <;> have := h1.2 <;> omega)
       have n6 := blk_kept BK8.out hk (fun h1 => by have := Lgb2.out; have := Ln7.out; have := Ln12.out; have := Lgb6.out; have := Ln19.out; have := Lgb8.out; have := Ln26.out; have := Lgb9.out; have := Ln34.out; rcases h1 with h1 | h1 <;> have := h1.2 <;> omega)
       have n7 := blk_kept BK9.out hk (fun h1 => by have := Lgb2.out; have := Ln7.out; have := Ln12.out; have := Lgb6.out; have := Ln19.out; have := Lgb8.out; have := Ln26.out; have := Lgb9.out; have := Ln34.out; rcases h1 with h1 | h1 <;> have := h1.2 <;> omega)
       have n8 := Nat.le_trans HZ.out hk.1
       clear Hq11f1 Hq11f2 Hq18f0 BK2 BK6 BK8 BK9 HZ
       have Hq11f1 := Aside0.mk n1
       have Hq11f2 := Aside0.mk n2
       have Hq18f0 := Aside0.mk n3
       have BK2 := Aside0.mk n4
       have BK6 := Aside0.mk n5
       have BK8 := Aside0.mk n6
       have BK9 := Aside0.mk n7
       have HZ := Aside0.mk n8
       clear n1 n2 n3 n4 n5 n6 n7 n8
       have n1 := hb2; clear HB; have HB := Aside0.mk n1; clear n1
       have Hq25f1 := Aside0.mk hr0
       have Hq25f2 := Aside0.mk hr1
       clear hb2 hk hr0 hr1
       have hx9_0 : w43.cell? ⟨gb9, 0, none⟩ = some (.int .i64 r.f0) := (blk_cell BK9.out 0).trans rfl
       have hx9_1 : w43.cell? ⟨gb9, 1, none⟩ = some (.slice Aq25f1 r.f1.length cq25f1) := (blk_cell BK9.out 1).trans rfl
       have hx9_2 : w43.cell? ⟨gb9, 2, none⟩ = some (.slice Aq25f2 r.f2.length cq25f2) := (blk_cell BK9.out 2).trans rfl)
    | ((with_reducible refine gate_callee (f := 18) rfl ?_)
       refine goesL_ (some 74) rfl rfl Try.func18 (by kernel_rfl) rfl #[.agg #[.int .i64 r.f0, .slice Aq25f1 r.f1.length cq25f1, .slice Aq25f2 r.f2.length cq25f2], .int .i64 1] rfl (by (try simp only [List.map_toArray, List.map_cons, List.map_nil]); first | done | rfl) ?_
       have hh := p17
       obtain ⟨kq46, eq46⟩ := hh
       refine calls_of_args (args' := #[.agg #[.int .i64 r.f0, .slice Aq25f1 (mtS (1) r.f1.length).length cq25f1, .slice Aq25f2 (mkTypeS r.f2 (1 + (r.f1.length : Nat))).length cq25f2], .int .i64 1]) (by simp only [mtS_length, mkTypeS_length]) ?_
       (with_reducible refine (laws_heldType.calls kq46 (r.f0) _ _ (mtS (1) r.f1.length) _ _ (mkTypeS r.f2 (1 + (r.f1.length : Nat))) 1 m1 _ (by first | exact (Kd.R_reads' Hq25f1.out).2.2 | (rw [mtS_length]; exact (Kd.R_reads' Hq25f1.out).2.2)) (by first | exact (Kd.R_reads' Hq25f1.out).2.1 | (rw [mtS_length]; exact (Kd.R_reads' Hq25f1.out).2.1)) (by first | exact (Kd.S_reads' Hq25f2.out).2.2 | (rw [mkTypeS_length]; exact (Kd.S_reads' Hq25f2.out).2.2)) (by first | exact (Kd.S_reads' Hq25f2.out).2.1 | (rw [mkTypeS_length]; exact (Kd.S_reads' Hq25f2.out).2.1)) eq46).mono ?_)
       rintro e w45 ⟨rfl, hb⟩
       refine ⟨_, rfl, ?_⟩
       clear hx9_0 hx9_1 hx9_2
       have n1 := Kd.R_below Hq11f1.out hb
       have n2 := Kd.S_below Hq11f2.out hb
       have n3 := Kd.S_below Hq18f0.out hb
       have n4 := Kd.R_below Hq25f1.out hb
       have n5 := Kd.S_below Hq25f2.out hb
       have n6 := blk_below BK2.out hb
       have n7 := blk_below BK6.out hb
       have n8 := blk_below BK8.out hb
       have n9 := blk_below BK9.out hb
       have n10 := below_step HB.out hb
       have n11 := Nat.le_trans HZ.out hb.size
       clear Hq11f1 Hq11f2 Hq18f0 Hq25f1 Hq25f2 BK2 BK6 BK8 BK9 HB HZ
       have Hq11f1 := Aside0.mk n1
       have Hq11f2 := Aside0.mk n2
       have Hq18f0 := Aside0.mk n3
       have Hq25f1 := Aside0.mk n4
       have Hq25f2 := Aside0.mk n5
       have BK2 := Aside0.mk n6
       have BK6 := Aside0.mk n7
       have BK8 := Aside0.mk n8
       have BK9 := Aside0.mk n9
       have HB := Aside0.mk n10
       have HZ := Aside0.mk n11
       clear n1 n2 n3 n4 n5 n6 n7 n8 n9 n10 n11
       clear hb
       have hx2_0 : w45.cell? ⟨gb2, 0, none⟩ = some (.slice A0f0 x0.f0.length c0f0) := (blk_cell BK2.out 0).trans rfl)
    | ((with_reducible refine gate_callee (f := 21) rfl ?_)
       refine goesL_ (some 82) rfl rfl Try.func21 (by kernel_rfl) rfl #[.agg #[.slice A0f0 x0.f0.length c0f0]] rfl (by (try simp only [List.map_toArray, List.map_cons, List.map_nil]); first | done | rfl) ?_
       have hh := p3
       obtain ⟨kq48, eq48⟩ := hh
       (with_reducible refine (laws_toSchema.calls kq48 _ _ (x0.f0) (y0.f0) _ (Kd.C_below HA0f0.out HB.out) kHA0f0 eq48).mono ?_)
       rintro e w47 ⟨u0, rfl, ho0, hb⟩
       refine ⟨_, rfl, ?_⟩
       clear hx2_0
       obtain ⟨n50, en50⟩ : ∃ n, n = w45.heap.size := ⟨_, rfl⟩
       obtain ⟨n51, en51⟩ : ∃ n, n = w47.heap.size := ⟨_, rfl⟩
       have En50 := Aside0.mk en50; have En51 := Aside0.mk en51
       clear en50 en51
       have Hq49f0 := Aside0.mk (Ow.S_iv (base := W.heap.size) ho0 En50.out En51.out (by have := HZ.out; have := Lgb2.out; have := Ln7.out; have := Ln12.out; have := Lgb6.out; have := Ln19.out; have := Lgb8.out; have := Ln26.out; have := Lgb9.out; have := Ln34.out; have := En50.out; omega))
       clear ho0
       obtain ⟨Aq49f0, cq49f0, ea⟩ := Kd.S_slice Hq49f0.out
       subst ea
       have Ln50 := Aside0.mk (show n35 ≤ n50 ∧ n50 ≤ n51 by have := HZ.out; have := hb.size; have := En50.out; have := En51.out; omega)
       have n1 := Kd.R_below Hq11f1.out hb
       have n2 := Kd.S_below Hq11f2.out hb
       have n3 := Kd.S_below Hq18f0.out hb
       have n4 := Kd.R_below Hq25f1.out hb
       have n5 := Kd.S_below Hq25f2.out hb
       have n6 := blk_below BK2.out hb
       have n7 := blk_below BK6.out hb
       have n8 := blk_below BK8.out hb
       have n9 := blk_below BK9.out hb
       have n10 := below_step HB.out hb
       have n11 := Nat.le_trans HZ.out hb.size
       clear Hq11f1 Hq11f2 Hq18f0 Hq25f1 Hq25f2 BK2 BK6 BK8 BK9 HB HZ
       have Hq11f1 := Aside0.mk n1
       have Hq11f2 := Aside0.mk n2
       have Hq18f0 := Aside0.mk n3
       have Hq25f1 := Aside0.mk n4
       have Hq25f2 := Aside0.mk n5
       have BK2 := Aside0.mk n6
       have BK6 := Aside0.mk n7
       have BK8 := Aside0.mk n8
       have BK9 := Aside0.mk n9
       have HB := Aside0.mk n10
       have HZ := Aside0.mk n11
       clear n1 n2 n3 n4 n5 n6 n7 n8 n9 n10 n11
       replace HZ := Aside0.mk (show n51 ≤ w47.heap.size by have := En51.out; omega)
       clear hb)
    | ((with_reducible refine gate_callee (f := 22) rfl ?_)
       refine goesL_ (some 84) rfl rfl Try.func22 (by kernel_rfl) rfl #[.agg #[.slice Aq49f0 y0.f0.length cq49f0], .string x1] rfl (by (try simp only [List.map_toArray, List.map_cons, List.map_nil]); first | done | rfl) ?_
       have hh := p5
       obtain ⟨kq53, eq53⟩ := hh
       (with_reducible refine (impl_RowType.calls kq53 _ _ (y0.f0) x1 (r.f0) (r.f1) (r.f2) b _ (Kd.S_reads' Hq49f0.out).2.2 (Kd.S_reads' Hq49f0.out).2.1 eq53).mono ?_)
       rintro e w52 ⟨u0, u1, rfl, ho0, ho1, hb⟩
       refine ⟨_, rfl, ?_⟩
       obtain ⟨n55, en55⟩ : ∃ n, n = w47.heap.size := ⟨_, rfl⟩
       obtain ⟨n56, en56⟩ : ∃ n, n = w52.heap.size := ⟨_, rfl⟩
       have En55 := Aside0.mk en55; have En56 := Aside0.mk en56
       clear en55 en56
       have Hq54f1 := Aside0.mk (Ow.R_iv (base := W.heap.size) ho0 En55.out En56.out (by have := HZ.out; have := Lgb2.out; have := Ln7.out; have := Ln12.out; have := Lgb6.out; have := Ln19.out; have := Lgb8.out; have := Ln26.out; have := Lgb9.out; have := Ln34.out; have := Ln50.out; have := En55.out; omega))
       clear ho0
       obtain ⟨Aq54f1, cq54f1, ea⟩ := Kd.R_slice Hq54f1.out
       subst ea
       have Hq54f2 := Aside0.mk (Ow.S_iv (base := W.heap.size) ho1 En55.out En56.out (by have := HZ.out; have := Lgb2.out; have := Ln7.out; have := Ln12.out; have := Lgb6.out; have := Ln19.out; have := Lgb8.out; have := Ln26.out; have := Lgb9.out; have := Ln34.out; have := Ln50.out; have := En55.out; omega))
       clear ho1
       obtain ⟨Aq54f2, cq54f2, ea⟩ := Kd.S_slice Hq54f2.out
       subst ea
       have Ln55 := Aside0.mk (show n51 ≤ n55 ∧ n55 ≤ n56 by have := HZ.out; have := hb.size; have := En55.out; have := En56.out; omega)
       have n1 := Kd.R_below Hq11f1.out hb
       have n2 := Kd.S_below Hq11f2.out hb
       have n3 := Kd.S_below Hq18f0.out hb
       have n4 := Kd.R_below Hq25f1.out hb
       have n5 := Kd.S_below Hq25f2.out hb
       have n6 := Kd.S_below Hq49f0.out hb
       have n7 := blk_below BK2.out hb
       have n8 := blk_below BK6.out hb
       have n9 := blk_below BK8.out hb
       have n10 := blk_below BK9.out hb
       have n11 := below_step HB.out hb
       have n12 := Nat.le_trans HZ.out hb.size
       clear Hq11f1 Hq11f2 Hq18f0 Hq25f1 Hq25f2 Hq49f0 BK2 BK6 BK8 BK9 HB HZ
       have Hq11f1 := Aside0.mk n1
       have Hq11f2 := Aside0.mk n2
       have Hq18f0 := Aside0.mk n3
       have Hq25f1 := Aside0.mk n4
       have Hq25f2 := Aside0.mk n5
       have Hq49f0 := Aside0.mk n6
       have BK2 := Aside0.mk n7
       have BK6 := Aside0.mk n8
       have BK8 := Aside0.mk n9
       have BK9 := Aside0.mk n10
       have HB := Aside0.mk n11
       have HZ := Aside0.mk n12
       clear n1 n2 n3 n4 n5 n6 n7 n8 n9 n10 n11 n12
       replace HZ := Aside0.mk (show n56 ≤ w52.heap.size by have := En56.out; omega)
       clear hb)
    | ((with_reducible refine gate_dst (N := 14) rfl ?_)
       refine box_event ?hg (N := 14) ?hd (cs := #[.int .i64 0, .slice none 0 0, .slice none 0 0]) (t := 29) ?hr ?_; (case hd => rfl); (case hg => rfl); (case hr => first | (go_simp; done) | (go_simp; rfl))
       intro gb14 hg w57 hbox hbA
       have HBA := Aside0.mk hbA; have HGA := Aside0.mk hg; have HXA := Aside0.mk hbox
       clear hbA hg hbox
       have hx14_0 : w57.cell? ⟨gb14, 0, none⟩ = some (.int .i64 0) := (blk_cell HXA.out 0).trans rfl
       have hx14_1 : w57.cell? ⟨gb14, 1, none⟩ = some (.slice none 0 0) := (blk_cell HXA.out 1).trans rfl
       have hx14_2 : w57.cell? ⟨gb14, 2, none⟩ = some (.slice none 0 0) := (blk_cell HXA.out 2).trans rfl
       have hf14_0 := blk_frozen HXA.out 0
       have hf14_1 := blk_frozen HXA.out 1
       have hf14_2 := blk_frozen HXA.out 2)
    | ((with_reducible refine gate_store (t := 29) (p := 14) rfl ?_)
       refine store_event (t := 29) (p := 14) (v := ?vo_w58) (w1 := (((w57.setCell ⟨gb14, 0, none⟩ (.int .i64 r.f0)).setCell ⟨gb14, 1, none⟩ (.slice Aq54f1 r.f1.length cq54f1)).setCell ⟨gb14, 2, none⟩ (.slice Aq54f2 r.f2.length cq54f2))) ?hg ?ho ?hn ?hr ?_; (case ho => rfl); (case hg => rfl); (case hn => rfl); (case hr => first | (go_simp; done) | (go_simp; rfl)); intro w58 hw
       have hb : Below w52.heap.size w52 w58 := by rw [hw]; exact below_set (below_set (below_set (HBA.out) (Nat.le_of_eq HGA.out.symm)) (Nat.le_of_eq HGA.out.symm)) (Nat.le_of_eq HGA.out.symm)
       have hbox : w58.heap[gb14]? = some (.cells #[.int .i64 r.f0, .slice Aq54f1 r.f1.length cq54f1, .slice Aq54f2 r.f2.length cq54f2] 29 (0, 0)) := by rw [hw]; exact blk_put (cs := #[.int .i64 r.f0, .slice Aq54f1 r.f1.length cq54f1, .slice none 0 0]) (blk_put (cs := #[.int .i64 r.f0, .slice none 0 0, .slice none 0 0]) (blk_put (cs := #[.int .i64 0, .slice none 0 0, .slice none 0 0]) (HXA.out) 0 (.int .i64 r.f0) rfl) 1 (.slice Aq54f1 r.f1.length cq54f1) rfl) 2 (.slice Aq54f2 r.f2.length cq54f2) rfl
       have Lgb14 := Aside0.mk (show n56 ≤ gb14 by rw [HGA.out]; exact HZ.out)
       clear hw HBA HGA HXA hx14_0 hf14_0 hx14_1 hf14_1 hx14_2 hf14_2
       have n1 := Kd.R_below Hq11f1.out hb
       have n2 := Kd.S_below Hq11f2.out hb
       have n3 := Kd.S_below Hq18f0.out hb
       have n4 := Kd.R_below Hq25f1.out hb
       have n5 := Kd.S_below Hq25f2.out hb
       have n6 := Kd.R_below Hq54f1.out hb
       have n7 := Kd.S_below Hq54f2.out hb
       have n8 := blk_below BK2.out hb
       have n9 := blk_below BK6.out hb
       have n10 := blk_below BK8.out hb
       have n11 := blk_below BK9.out hb
       have n12 := below_step HB.out hb
       have n13 := Nat.le_trans HZ.out hb.size
       clear Hq11f1 Hq11f2 Hq18f0 Hq25f1 Hq25f2 Hq54f1 Hq54f2 BK2 BK6 BK8 BK9 HB HZ
       have Hq11f1 := Aside0.mk n1
       have Hq11f2 := Aside0.mk n2
       have Hq18f0 := Aside0.mk n3
       have Hq25f1 := Aside0.mk n4
       have Hq25f2 := Aside0.mk n5
       have Hq54f1 := Aside0.mk n6
       have Hq54f2 := Aside0.mk n7
       have BK2 := Aside0.mk n8
       have BK6 := Aside0.mk n9
       have BK8 := Aside0.mk n10
       have BK9 := Aside0.mk n11
       have HB := Aside0.mk n12
       have HZ := Aside0.mk n13
       clear n1 n2 n3 n4 n5 n6 n7 n8 n9 n10 n11 n12 n13
       have BK14 := Aside0.mk hbox
       replace HZ := Aside0.mk (show gb14 + 1 ≤ w58.heap.size from blk_lt hbox)
       clear hbox hb
       have hx14_0 : w58.cell? ⟨gb14, 0, none⟩ = some (.int .i64 r.f0) := (blk_cell BK14.out 0).trans rfl
       have hx14_1 : w58.cell? ⟨gb14, 1, none⟩ = some (.slice Aq54f1 r.f1.length cq54f1) := (blk_cell BK14.out 1).trans rfl
       have hx14_2 : w58.cell? ⟨gb14, 2, none⟩ = some (.slice Aq54f2 r.f2.length cq54f2) := (blk_cell BK14.out 2).trans rfl
       have hx6_0 : w58.cell? ⟨gb6, 0, none⟩ = some (.int .i64 r.f0) := (blk_cell BK6.out 0).trans rfl
       have hx6_1 : w58.cell? ⟨gb6, 1, none⟩ = some (.slice Aq11f1 r.f1.length cq11f1) := (blk_cell BK6.out 1).trans rfl
       have hx6_2 : w58.cell? ⟨gb6, 2, none⟩ = some (.slice Aq11f2 r.f2.length cq11f2) := (blk_cell BK6.out 2).trans rfl)
    | ((with_reducible refine gate_callee (f := 16) rfl ?_)
       refine goesL_ (some 89) rfl rfl Try.func16 (by kernel_rfl) rfl #[.agg #[.int .i64 r.f0, .slice Aq54f1 r.f1.length cq54f1, .slice Aq54f2 r.f2.length cq54f2], .agg #[.int .i64 r.f0, .slice Aq11f1 r.f1.length cq11f1, .slice Aq11f2 r.f2.length cq11f2]] rfl (by (try simp only [List.map_toArray, List.map_cons, List.map_nil]); first | done | rfl) ?_
       have hh := p6
       obtain ⟨kq60, eq60⟩ := hh
       (with_reducible refine (laws_eqType.calls kq60 (r.f0) _ _ (r.f1) _ _ (r.f2) (r.f0) _ _ (r.f1) _ _ (r.f2) true _ (Kd.R_reads' Hq54f1.out).2.2 (Kd.R_reads' Hq54f1.out).2.1 (Kd.S_reads' Hq54f2.out).2.2 (Kd.S_reads' Hq54f2.out).2.1 (Kd.R_reads' Hq11f1.out).2.2 (Kd.R_reads' Hq11f1.out).2.1 (Kd.S_reads' Hq11f2.out).2.2 (Kd.S_reads' Hq11f2.out).2.1 eq60).mono ?_)
       rintro e w59 ⟨rfl, hb⟩
       refine ⟨_, rfl, ?_⟩
       clear hx14_0 hx14_1 hx14_2 hx6_0 hx6_1 hx6_2
       have n1 := Kd.R_below Hq11f1.out hb
       have n2 := Kd.S_below Hq11f2.out hb
       have n3 := Kd.S_below Hq18f0.out hb
       have n4 := Kd.R_below Hq25f1.out hb
       have n5 := Kd.S_below Hq25f2.out hb
       have n6 := Kd.R_below Hq54f1.out hb
       have n7 := Kd.S_below Hq54f2.out hb
       have n8 := blk_below BK2.out hb
       have n9 := blk_below BK6.out hb
       have n10 := blk_below BK8.out hb
       have n11 := blk_below BK9.out hb
       have n12 := blk_below BK14.out hb
       have n13 := below_step HB.out hb
       have n14 := Nat.le_trans HZ.out hb.size
       clear Hq11f1 Hq11f2 Hq18f0 Hq25f1 Hq25f2 Hq54f1 Hq54f2 BK2 BK6 BK8 BK9 BK14 HB HZ
       have Hq11f1 := Aside0.mk n1
       have Hq11f2 := Aside0.mk n2
       have Hq18f0 := Aside0.mk n3
       have Hq25f1 := Aside0.mk n4
       have Hq25f2 := Aside0.mk n5
       have Hq54f1 := Aside0.mk n6
       have Hq54f2 := Aside0.mk n7
       have BK2 := Aside0.mk n8
       have BK6 := Aside0.mk n9
       have BK8 := Aside0.mk n10
       have BK9 := Aside0.mk n11
       have BK14 := Aside0.mk n12
       have HB := Aside0.mk n13
       have HZ := Aside0.mk n14
       clear n1 n2 n3 n4 n5 n6 n7 n8 n9 n10 n11 n12 n13 n14
       clear hb
       have hx9_0 : w59.cell? ⟨gb9, 0, none⟩ = some (.int .i64 r.f0) := (blk_cell BK9.out 0).trans rfl
       have hx9_1 : w59.cell? ⟨gb9, 1, none⟩ = some (.slice Aq25f1 r.f1.length cq25f1) := (blk_cell BK9.out 1).trans rfl
       have hx9_2 : w59.cell? ⟨gb9, 2, none⟩ = some (.slice Aq25f2 r.f2.length cq25f2) := (blk_cell BK9.out 2).trans rfl)
    | ((with_reducible refine gate_callee (f := 18) rfl ?_)
       refine goesL_ (some 98) rfl rfl Try.func18 (by kernel_rfl) rfl #[.agg #[.int .i64 r.f0, .slice Aq25f1 r.f1.length cq25f1, .slice Aq25f2 r.f2.length cq25f2], .int .i64 1] rfl (by (try simp only [List.map_toArray, List.map_cons, List.map_nil]); first | done | rfl) ?_
       have hh := p17
       obtain ⟨kq62, eq62⟩ := hh
       refine calls_of_args (args' := #[.agg #[.int .i64 r.f0, .slice Aq25f1 (mtS (1) r.f1.length).length cq25f1, .slice Aq25f2 (mkTypeS r.f2 (1 + (r.f1.length : Nat))).length cq25f2], .int .i64 1]) (by simp only [mtS_length, mkTypeS_length]) ?_
       (with_reducible refine (laws_heldType.calls kq62 (r.f0) _ _ (mtS (1) r.f1.length) _ _ (mkTypeS r.f2 (1 + (r.f1.length : Nat))) 1 m1 _ (by first | exact (Kd.R_reads' Hq25f1.out).2.2 | (rw [mtS_length]; exact (Kd.R_reads' Hq25f1.out).2.2)) (by first | exact (Kd.R_reads' Hq25f1.out).2.1 | (rw [mtS_length]; exact (Kd.R_reads' Hq25f1.out).2.1)) (by first | exact (Kd.S_reads' Hq25f2.out).2.2 | (rw [mkTypeS_length]; exact (Kd.S_reads' Hq25f2.out).2.2)) (by first | exact (Kd.S_reads' Hq25f2.out).2.1 | (rw [mkTypeS_length]; exact (Kd.S_reads' Hq25f2.out).2.1)) eq62).mono ?_)
       rintro e w61 ⟨rfl, hb⟩
       refine ⟨_, rfl, ?_⟩
       clear hx9_0 hx9_1 hx9_2
       have n1 := Kd.R_below Hq11f1.out hb
       have n2 := Kd.S_below Hq11f2.out hb
       have n3 := Kd.S_below Hq18f0.out hb
       have n4 := Kd.R_below Hq25f1.out hb
       have n5 := Kd.S_below Hq25f2.out hb
       have n6 := Kd.R_below Hq54f1.out hb
       have n7 := Kd.S_below Hq54f2.out hb
       have n8 := blk_below BK2.out hb
       have n9 := blk_below BK6.out hb
       have n10 := blk_below BK8.out hb
       have n11 := blk_below BK9.out hb
       have n12 := blk_below BK14.out hb
       have n13 := below_step HB.out hb
       have n14 := Nat.le_trans HZ.out hb.size
       clear Hq11f1 Hq11f2 Hq18f0 Hq25f1 Hq25f2 Hq54f1 Hq54f2 BK2 BK6 BK8 BK9 BK14 HB HZ
       have Hq11f1 := Aside0.mk n1
       have Hq11f2 := Aside0.mk n2
       have Hq18f0 := Aside0.mk n3
       have Hq25f1 := Aside0.mk n4
       have Hq25f2 := Aside0.mk n5
       have Hq54f1 := Aside0.mk n6
       have Hq54f2 := Aside0.mk n7
       have BK2 := Aside0.mk n8
       have BK6 := Aside0.mk n9
       have BK8 := Aside0.mk n10
       have BK9 := Aside0.mk n11
       have BK14 := Aside0.mk n12
       have HB := Aside0.mk n13
       have HZ := Aside0.mk n14
       clear n1 n2 n3 n4 n5 n6 n7 n8 n9 n10 n11 n12 n13 n14
       clear hb))
  go_ret
  exact ⟨rfl, HB.out⟩
set_option maxHeartbeats 8000000 in
set_option maxRecDepth 100000 in
theorem FnExactRowType_stop1 (x0 : S38) (x1 : ByteArray) (y0 : S43) (r : S29) (b : Bool)
    (p0 : decide ((x1.size : Int) > 1048576) = true)
    (W : World) {A0f0 : Option Addr} {c0f0 : Nat} (hHA0f0 : Kd.C k136 W A0f0 x0.f0.length x0.f0) (kHA0f0 : x0.f0.length ≤ c0f0) :
    Calls Try.prog 4 #[.agg #[.slice A0f0 x0.f0.length c0f0], .string x1] W fun e w' => e = .returned (.bool true) ∧ Below W.heap.size W w' := by
  have HA0f0 := Aside0.mk hHA0f0
  clear hHA0f0
  have HB := Aside0.mk (Below.refl W.heap.size W)
  have HZ := Aside0.mk (Nat.le_refl W.heap.size)
  have HZ0 := Aside0.mk (Nat.le_refl W.heap.size)
  go_enter Try.func4, Try.ntmps4
  go_wp2_with (first
    | ((with_reducible refine gate_dst (N := 2) rfl ?_)
       refine box_event ?hg (N := 2) ?hd (cs := #[.slice A0f0 x0.f0.length c0f0]) (t := 38) ?hr ?_; (case hd => rfl); (case hg => rfl); (case hr => first | (go_simp; done) | (go_simp; rfl))
       intro gb2 hg w1 hbox hb
       have Lgb2 := Aside0.mk (show W.heap.size ≤ gb2 by rw [hg]; exact HZ.out)
       have n1 := below_step HB.out hb
       have n2 := Nat.le_trans HZ.out hb.size
       clear HB HZ
       have HB := Aside0.mk n1
       have HZ := Aside0.mk n2
       clear n1 n2
       have BK2 := Aside0.mk hbox
       replace HZ := Aside0.mk (show gb2 + 1 ≤ w1.heap.size from blk_lt hbox)
       clear hbox hb hg
       have hx2_0 : w1.cell? ⟨gb2, 0, none⟩ = some (.slice A0f0 x0.f0.length c0f0) := (blk_cell BK2.out 0).trans rfl))
  go_ret
  exact ⟨rfl, HB.out⟩
set_option maxHeartbeats 8000000 in
set_option maxRecDepth 100000 in
theorem FnExactRowType_stop2 (x0 : S38) (x1 : ByteArray) (y0 : S43) (r : S29) (b : Bool) (left0 : Int)
    (p0 : decide ((x1.size : Int) > 1048576) = false)
    (p1 : ∃ k, laws_szSchema.f k (x0.f0) 1048576 = some left0)
    (p2 : decide (left0 < 0) = true)
    (W : World) {A0f0 : Option Addr} {c0f0 : Nat} (hHA0f0 : Kd.C k136 W A0f0 x0.f0.length x0.f0) (kHA0f0 : x0.f0.length ≤ c0f0) :
    Calls Try.prog 4 #[.agg #[.slice A0f0 x0.f0.length c0f0], .string x1] W fun e w' => e = .returned (.bool true) ∧ Below W.heap.size W w' := by
  have HA0f0 := Aside0.mk hHA0f0
  clear hHA0f0
  have HB := Aside0.mk (Below.refl W.heap.size W)
  have HZ := Aside0.mk (Nat.le_refl W.heap.size)
  have HZ0 := Aside0.mk (Nat.le_refl W.heap.size)
  go_enter Try.func4, Try.ntmps4
  go_wp2_with (first
    | ((with_reducible refine gate_dst (N := 2) rfl ?_)
       refine box_event ?hg (N := 2) ?hd (cs := #[.slice A0f0 x0.f0.length c0f0]) (t := 38) ?hr ?_; (case hd => rfl); (case hg => rfl); (case hr => first | (go_simp; done) | (go_simp; rfl))
       intro gb2 hg w1 hbox hb
       have Lgb2 := Aside0.mk (show W.heap.size ≤ gb2 by rw [hg]; exact HZ.out)
       have n1 := below_step HB.out hb
       have n2 := Nat.le_trans HZ.out hb.size
       clear HB HZ
       have HB := Aside0.mk n1
       have HZ := Aside0.mk n2
       clear n1 n2
       have BK2 := Aside0.mk hbox
       replace HZ := Aside0.mk (show gb2 + 1 ≤ w1.heap.size from blk_lt hbox)
       clear hbox hb hg
       have hx2_0 : w1.cell? ⟨gb2, 0, none⟩ = some (.slice A0f0 x0.f0.length c0f0) := (blk_cell BK2.out 0).trans rfl)
    | ((with_reducible refine gate_callee (f := 19) rfl ?_)
       refine goesL_ (some 21) rfl rfl Try.func19 (by kernel_rfl) rfl #[.agg #[.slice A0f0 x0.f0.length c0f0], .int .i64 1048576] rfl (by (try simp only [List.map_toArray, List.map_cons, List.map_nil]); first | done | rfl) ?_
       have hh := p1
       obtain ⟨kq3, eq3⟩ := hh
       (with_reducible refine (laws_szSchema.calls kq3 _ _ (x0.f0) 1048576 left0 _ (Kd.C_below HA0f0.out HB.out) kHA0f0 eq3).mono ?_)
       rintro e w2 ⟨rfl, hb⟩
       refine ⟨_, rfl, ?_⟩
       clear hx2_0
       have n1 := blk_below BK2.out hb
       have n2 := below_step HB.out hb
       have n3 := Nat.le_trans HZ.out hb.size
       clear BK2 HB HZ
       have BK2 := Aside0.mk n1
       have HB := Aside0.mk n2
       have HZ := Aside0.mk n3
       clear n1 n2 n3
       clear hb
       have hx2_0 : w2.cell? ⟨gb2, 0, none⟩ = some (.slice A0f0 x0.f0.length c0f0) := (blk_cell BK2.out 0).trans rfl))
  go_ret
  exact ⟨rfl, HB.out⟩
end Go.Proofs.Ytcgdaeaaimkhdaa.Py
end
section
namespace Go.Proofs.Ytcgdaeaaimkhdaa.Py
open Go.RowKit Go.Proofs.YtcgdaeaaimkhdaaW.PrintWords Go.Proofs.YtcgdaeaaimkhdaaW.PrintLast Go.Proofs.Ytcgdaeaaimkhdaa.Pl Go.Proofs.Ytcgdaeaaimkhdaa.Ext
set_option linter.unusedVariables false
set_option linter.unusedSimpArgs false
theorem FnExactRowType_told (x0 : S38) (hW0 : W38 x0) (x1 : ByteArray) (W : World) {A0 : Option Addr} {c0 : Nat} (g0 : Kd.C k136 W A0 x0.f0.length x0.f0) (k0 : x0.f0.length ≤ c0) :
    Calls Try.prog 4 #[.agg #[.slice A0 x0.f0.length c0], .string x1] W fun e w' => e = .returned (.bool true) ∧ Below W.heap.size W w' := by
  by_cases h1 : (x1.size : Int) > 1048576
  · exact FnExactRowType_stop1 x0 x1 (cvSchema x0) z29 false (decide_eq_true h1) W g0 k0
  have hs := szSchema_ev x0 hW0 1048576 (by omega) (by omega)
  by_cases hc : cut (wtSchema x0) 1048576 < 0
  · exact FnExactRowType_stop2 x0 x1 (cvSchema x0) z29 false _ (decide_eq_false h1) hs.rounds (decide_eq_true hc) W g0 k0
  have hw : wtSchema x0 ≤ 1048576 := by
    have := (not_congr (cut_neg (n := wtSchema x0) (left := 1048576))).1 hc
    omega
  have sm := smSchema_of x0 hW0 hw
  have hw2 := hw
  rw [wtSchema_eq] at hw2
  have ht : ∀ y ∈ (cvSchema x0).f0, SmType y.f1 ∧ cnType y.f1 ≤ 1048577 := by
    intro y hy
    refine ⟨(sm.p0.2 y hy).p1, ?_⟩
    rw [cvSchema_eq] at hy; dsimp only at hy; rw [cvTableDeclS_map] at hy
    obtain ⟨z, hz, rfl⟩ := List.mem_map.1 hy
    have h1 := cnType_cv z.f1
    have h2 := sum_le_of_mem wtTableDecl hz
    rw [← wtTableDeclS_sum] at h2
    rw [wtTableDecl_eq] at h2
    rw [cvTableDecl_eq]; dsimp only; omega
  obtain ⟨r, b, h2, h3, hr, hcr⟩ := RowType_same (cvSchema x0).f0 sm.p0.1 ht x1
  have c0 := cnTableDeclS_cv x0.f0
  have e1 := cnType_eq r
  have e2 : (cvSchema x0).f0 = cvTableDeclS x0.f0 := by rw [cvSchema_eq]
  have ln1 := fun y hy => lnType_of y (hr.p2.2 y hy)
  refine FnExactRowType_walk x0 x1 (cvSchema x0) r b _ _ _ (decide_eq_false h1) hs.rounds (decide_eq_false hc) (toSchema_ev x0 hw).rounds h2.rounds h3.rounds (eqType_ev r hr).rounds (eqSchema_ev _ sm).rounds
    (marksTableDeclS _ sm.p0.1 (fun y hy => lnTableDecl_of y (sm.p0.2 y hy))) (by rw [e2]; omega) rfl (decide_eq_false (by omega)) hr.p1.1 (marksTypeS _ hr.p2.1 ln1) (by omega) rfl (decide_eq_false (by omega)) ?_ W g0 k0
  refine Ev.rounds ?_
  simp only [laws_heldType.f]
  refine Ev.bind (heldStringS_ev _ hr.p1.1 1 (by omega) (by omega)) (Ev.neg (by omega) (Ev.bind (heldTypeS_ev _ hr.p2.1 ln1 _ (by omega) (by omega)) (Ev.neg (by omega) (Ev.now _))))

end Go.Proofs.Ytcgdaeaaimkhdaa.Py
end
section
namespace Go.Proofs.Ytcgdaeaaimkhdaa.Rd
open Go.RowKit Go.Proofs.YtcgdaeaaimkhdaaW.PrintWords
set_option linter.unusedVariables false
/-- What reads as_ data of type t, by at most n steps, is of kind d and meets q. -/
def Op (P : Program) (n : Nat) (t : TypeId) {α : Type} (d : Kd α) (q : α → Prop) : Prop :=
  ∀ (H : Type) (enc : TypeId × Value → H) (w : World) (base : Nat) (spare : Nat → Bool) (held : Bool) (fuel : Nat) (cs : List Value) (x : DataW H × List MemPlace),
    fuel ≤ n → DataW.trod enc P w base spare held fuel t cs = some x → ∃ y, d.K w y cs ∧ q y
theorem Op.imp {P : Program} {n : Nat} {t : TypeId} {α : Type} {d d' : Kd α} {q q' : α → Prop} (h1 : ∀ w y cs, d.K w y cs → d'.K w y cs) (h2 : ∀ y, q y → q' y) (h : Op P n t d q) : Op P n t d' q' := by
  intro H enc w base spare held fuel cs x hf hx
  obtain ⟨y, hy, hq⟩ := h H enc w base spare held fuel cs x hf hx
  exact ⟨y, h1 _ _ _ hy, h2 _ hq⟩
theorem Op.iso {P : Program} {n : Nat} {t : TypeId} {α β : Type} {d : Kd α} {q : α → Prop} {f : β → α} (g : α → β) (hg : ∀ y, f (g y) = y) (h : Op P n t d q) : Op P n t (Kd.iso d f) (fun x => q (f x)) := by
  intro H enc w base spare held fuel cs x hf hx
  obtain ⟨y, hy, hq⟩ := h H enc w base spare held fuel cs x hf hx
  refine ⟨g y, ?_, ?_⟩
  · show d.K w (f (g y)) cs
    rw [hg]; exact hy
  · show q (f (g y))
    rw [hg]; exact hq
theorem Op.int {P : Program} {n : Nat} {t : TypeId} {k : IntKind} (ht : P.underlying t = some (.int k)) : Op P n t (Kd.int k) (fun x => (Lit.int k x).wf = true) := by
  intro H enc w base spare held fuel cs x hf hx
  obtain ⟨m, rfl, rfl, hw⟩ := DataW.trod_int ht hx
  exact ⟨m, rfl, hw⟩
theorem Op.bool {P : Program} {n : Nat} {t : TypeId} (ht : P.underlying t = some .bool) : Op P n t Kd.bool (fun _ => True) := by
  intro H enc w base spare held fuel cs x hf hx
  obtain ⟨m, rfl, rfl⟩ := DataW.trod_bool ht hx
  exact ⟨m, rfl, trivial⟩
theorem trod_string' {H : Type} {enc : TypeId × Value → H} {P : Program} {w : World} {base : Nat} {spare : Nat → Bool} {held : Bool} {fuel : Nat} {t : TypeId} {cs : List Value} {x : DataW H × List MemPlace}
    (ht : P.underlying t = some .string) (h : DataW.trod enc P w base spare held fuel t cs = some x) : ∃ s, cs = [.string s] ∧ s.size ≤ maxLen := by
  cases fuel with
  | zero => simp [DataW.trod] at h
  | succ n =>
    unfold DataW.trod at h
    rw [ht] at h
    split at h <;> simp_all
theorem Op.string {P : Program} {n : Nat} {t : TypeId} (ht : P.underlying t = some .string) : Op P n t Kd.string (fun s => s.size ≤ maxLen) := by
  intro H enc w base spare held fuel cs x hf hx
  obtain ⟨m, rfl, hm⟩ := trod_string' ht hx
  exact ⟨m, rfl, hm⟩
theorem add_add (a : Addr) (i j : Nat) : (a.add i).add j = a.add (i + j) := by
  unfold Addr.add
  by_cases h1 : i = 0 <;> by_cases h2 : j = 0 <;> simp [h1, h2, Nat.add_assoc]
theorem choose_list {α : Type} {p : Nat → α → Prop} (n : Nat) (h : ∀ i, i < n → ∃ y, p i y) : ∃ ys : List α, ys.length = n ∧ ∀ i y, ys[i]? = some y → p i y := by
  induction n with
  | zero => exact ⟨[], rfl, fun i y hy => by simp at hy⟩
  | succ n ih =>
    obtain ⟨ys, hl, hy⟩ := ih (fun i hi => h i (by omega))
    obtain ⟨z, hz⟩ := h n (by omega)
    refine ⟨ys ++ [z], by simp [hl], fun i y hi => ?_⟩
    by_cases hlt : i < n
    · rw [List.getElem?_append_left (by omega)] at hi
      exact hy i y hi
    · by_cases he : i = n
      · subst he
        rw [List.getElem?_append_right (by omega)] at hi
        simp [hl] at hi
        subst hi
        exact hz
      · rw [List.getElem?_eq_none (by simp; omega)] at hi
        cases hi
theorem Op.slice {P : Program} {n : Nat} {t e : TypeId} {α : Type} {d : Kd α} {q : α → Prop} (ht : P.underlying t = some (.slice e)) (hsz : P.cellsOf e = d.sz) (h : ∀ k, k < n → Op P k e d q) :
    Op P n t (Kd.slice e d) (fun xs => xs.length ≤ maxLen ∧ ∀ y ∈ xs, q y) := by
  intro H enc w base spare held fuel cs x hf hx
  rcases DataW.trod_slice ht hx with ⟨rfl, _⟩ | ⟨a, len, cap, elems, rest, m, hm, rfl, _, hb, hl, hc, hlen, hel, _, _⟩
  · exact ⟨[], ⟨none, 0, rfl, Nat.le_refl _, ⟨rfl, by simp, fun hp => absurd hp (by simp)⟩⟩, by simp, fun y hy => by simp at hy⟩
  · have hone : ∀ i, i < len → ∃ y, (∃ c, c.length = d.sz ∧ d.K w y c ∧ ∀ j u, c[j]? = some u → w.cell? (a.add (i * d.sz + j)) = some u) ∧ q y := by
      intro i hi
      have h1 := hel i hi
      rw [List.getElem?_eq_getElem (by omega)] at h1
      obtain ⟨c, hc1, hc2⟩ := Option.bind_eq_some_iff.1 h1
      obtain ⟨y, hy, hq⟩ := h m (by omega) H enc w base spare held m c _ (Nat.le_refl _) hc2
      obtain ⟨_, hcl, hcells⟩ := World.cells?_some hc1
      refine ⟨y, ⟨c, by omega, hy, fun j u hu => ?_⟩, hq⟩
      have hj : j < P.cellsOf e := by
        rw [← hcl]
        exact (List.getElem?_eq_some_iff.1 hu).1
      have := hcells j hj
      rw [add_add, hsz] at this
      rw [this, hu]
    obtain ⟨ys, hyl, hys⟩ := choose_list len hone
    have hmx : len ≤ 9223372036854775807 := by
      have : cap ≤ 9223372036854775807 := hc
      omega
    refine ⟨ys, ⟨some a, cap, by rw [hyl], by omega, ⟨rfl, by omega, fun _ => ⟨a, rfl, fun j p hj => (hys j p hj).1⟩⟩⟩, by rw [hyl]; exact hmx, fun y hy => ?_⟩
    obtain ⟨i, hi, rfl⟩ := List.getElem_of_mem hy
    exact (hys i _ (List.getElem?_eq_getElem hi)).2
/-- Fields, from an offset on. -/
def OpF (P : Program) (n : Nat) (fs : List Field) (off : Nat) {α : Type} (d : Kd α) (q : α → Prop) : Prop :=
  ∀ (H : Type) (enc : TypeId × Value → H) (w : World) (base : Nat) (spare : Nat → Bool) (held : Bool) (fuel : Nat) (cs : List Value), fuel ≤ n →
    (∀ f ∈ fs, ∃ x, DataW.trod enc P w base spare held fuel f.type ((cs.drop f.offset).take (P.cellsOf f.type)) = some x) → cs.length = off + d.sz → ∃ y, d.K w y (cs.drop off) ∧ q y
theorem OpF.one {P : Program} {n : Nat} {f : Field} {off : Nat} {α : Type} {d : Kd α} {q : α → Prop} (ho : f.offset = off) (hsz : P.cellsOf f.type = d.sz) (h : Op P n f.type d q) : OpF P n [f] off d q := by
  intro H enc w base spare held fuel cs hf hx hl
  obtain ⟨x, hx⟩ := hx f (List.mem_singleton.2 rfl)
  rw [ho, hsz, List.take_of_length_le (by rw [List.length_drop]; omega)] at hx
  exact h H enc w base spare held fuel _ x hf hx
theorem OpF.cons {P : Program} {n : Nat} {f : Field} {fs : List Field} {off : Nat} {α β : Type} {a : Kd α} {b : Kd β} {qa : α → Prop} {qb : β → Prop} (ho : f.offset = off) (hsz : P.cellsOf f.type = a.sz) (h : Op P n f.type a qa) (hr : OpF P n fs (off + a.sz) b qb) :
    OpF P n (f :: fs) off (Kd.pair a b) (fun y => qa y.1 ∧ qb y.2) := by
  intro H enc w base spare held fuel cs hf hx hl
  have hl' : cs.length = off + (a.sz + b.sz) := hl
  obtain ⟨x, h1⟩ := hx f (List.mem_cons_self ..)
  rw [ho, hsz] at h1
  obtain ⟨y, hy, hq⟩ := h H enc w base spare held fuel _ x hf h1
  obtain ⟨z, hz, hq2⟩ := hr H enc w base spare held fuel cs hf (fun g hg => hx g (List.mem_cons_of_mem _ hg)) (by omega)
  refine ⟨(y, z), ⟨_, _, ?_, hy, hz⟩, hq, hq2⟩
  rw [← List.drop_drop, List.take_append_drop]
theorem Op.struct {P : Program} {n : Nat} {t : TypeId} {fs : Array Field} {α : Type} {d : Kd α} {q : α → Prop} (ht : P.underlying t = some (.struct fs)) (hsz : P.cellsOf t = d.sz) (h : ∀ k, k < n → OpF P k fs.toList 0 d q) : Op P n t d q := by
  intro H enc w base spare held fuel cs x hf hx
  obtain ⟨xs, m, hm, _, hl, hxl, hfs⟩ := DataW.trod_struct ht hx
  have hr := h m (by omega) H enc w base spare held m cs (Nat.le_refl _) (fun f hfm => ?_) (by omega)
  · simpa using hr
  · obtain ⟨i, hi, rfl⟩ := List.getElem_of_mem hfm
    have hi' : i < fs.size := by simpa using hi
    have h2 := hfs i _ (Array.getElem?_eq_getElem hi')
    rw [List.getElem?_eq_getElem (by omega)] at h2
    exact ⟨_, by simpa using h2⟩
/-- The same at whatever fuel. -/
theorem Op.open_ {P : Program} {t : TypeId} {α : Type} {d : Kd α} {q : α → Prop} (h : ∀ n, Op P n t d q) {H : Type} {enc : TypeId × Value → H} {w : World} {base : Nat} {spare : Nat → Bool} {held : Bool} {v : Value} {x : DataW H} {ps : List MemPlace}
    (ht : DataW.Trod enc P w base spare held t v x ps) : ∃ y, d.K w y v.cells.toList ∧ q y := by
  obtain ⟨fuel, hf⟩ := ht
  exact h fuel H enc w base spare held fuel _ _ (Nat.le_refl _) hf
end Go.Proofs.Ytcgdaeaaimkhdaa.Rd
end
section
namespace Go.Proofs.Ytcgdaeaaimkhdaa.Py
open Go.RowKit Go.Proofs.Ytcgdaeaaimkhdaa.Ext Go.Proofs.YtcgdaeaaimkhdaaW.PrintWords Go.Proofs.YtcgdaeaaimkhdaaW.PrintLast Go.Proofs.YtcgdaeaaimkhdaaW.PrintMore Go.Proofs.Ytcgdaeaaimkhdaa
set_option linter.unusedVariables false
set_option linter.unusedSimpArgs false

theorem fold25 : ∀ (w : World) (x : S25) (cs : List Value), (F25 k25).K w x cs → k25.K w x cs := by
  intro w x cs h
  obtain ⟨_, _, rfl, rfl, ⟨_, _, rfl, ⟨A1, c1, rfl, l1, g1⟩, ⟨A2, c2, rfl, l2, g2⟩⟩⟩ := h
  exact k25_mk w x l1 g1 l2 g2
theorem op25 : ∀ n, Rd.Op Try.prog n 25 k25 W25 := by
  intro n
  induction n using Nat.strongRecOn with
  | _ n ih =>
  exact Rd.Op.imp (d := F25 k25) fold25 (fun x h => W25.mk h.1 h.2.1 h.2.2.1 h.2.2.2) (Rd.Op.iso (g := fun p => ⟨p.1, p.2.1, p.2.2⟩) (fun _ => rfl) (Rd.Op.struct Try.underlying25 (by kernel_rfl) (fun j0 hj0 => (Rd.OpF.cons rfl (by kernel_rfl) (Rd.Op.int Try.underlying3) (Rd.OpF.cons rfl (by kernel_rfl) (Rd.Op.slice Try.underlying22 (by kernel_rfl) (fun j1 hj1 => (Rd.Op.string Try.underlying9))) (Rd.OpF.one rfl (by kernel_rfl) (Rd.Op.slice Try.underlying23 (by kernel_rfl) (fun j1 hj1 => ih j1 (by omega)))))))))
theorem op136 : ∀ n, Rd.Op Try.prog n 136 k136 W136 := by
  intro n
  exact Rd.Op.imp (d := k136) (fun _ _ _ h => h) (fun x h => h) (Rd.Op.iso (g := fun p => ⟨p.1, p.2⟩) (fun _ => rfl) (Rd.Op.struct Try.underlying136 (by kernel_rfl) (fun j0 hj0 => (Rd.OpF.cons rfl (by kernel_rfl) (Rd.Op.string Try.underlying9) (Rd.OpF.one rfl (by kernel_rfl) (op25 _))))))
theorem op38 : ∀ n, Rd.Op Try.prog n 38 k38 W38 := by
  intro n
  exact Rd.Op.imp (d := k38) (fun _ _ _ h => h) (fun x h => h) (Rd.Op.iso (g := fun p => ⟨p⟩) (fun _ => rfl) (Rd.Op.struct Try.underlying38 (by kernel_rfl) (fun j0 hj0 => (Rd.OpF.one rfl (by kernel_rfl) (Rd.Op.slice Try.underlying36 (by kernel_rfl) (fun j1 hj1 => (op136 _)))))))
end Go.Proofs.Ytcgdaeaaimkhdaa.Py
end
