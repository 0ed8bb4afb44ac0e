/- The walk of the law FnExactRowsOf: what it does, by what its functions come to. -/
import Derived.Test.YtcgdaeaaimkhdaaZRowsOfExtM
import Derived.Test.YtcgdaeaaimkhdaaZRowsOfPy11
import Derived.Test.YtcgdaeaaimkhdaaZRowsOfPy12M
import Derived.Test.YtcgdaeaaimkhdaaZRowsOfPy14M
import Derived.Test.YtcgdaeaaimkhdaaZRowsOfPy16
import Derived.Test.YtcgdaeaaimkhdaaZRowsOfPy18M
import Derived.Test.YtcgdaeaaimkhdaaZRowsOfPlM
import Derived.Test.YtcgdaeaaimkhdaaZRowsOfWLastM
import Derived.Test.YtcgdaeaaimkhdaaZRowsOfWWords
import Derived.Deep.Slices
import Derived.ChangeArms
import Derived.DataReads
section
namespace Go.Proofs.Ytcgdaeaaimkhdaa.Py
open Go.RowKit Go.Proofs.YtcgdaeaaimkhdaaW.PrintWords Go.Proofs.YtcgdaeaaimkhdaaW.PrintLast Go.Proofs.YtcgdaeaaimkhdaaW.PrintMore Go.Proofs.Ytcgdaeaaimkhdaa.Pl Go.Proofs.Ytcgdaeaaimkhdaa.Ext
set_option linter.unusedVariables false
set_option linter.unusedSimpArgs false
set_option maxHeartbeats 8000000 in
set_option maxRecDepth 100000 in
theorem FnExactRowsOf_walk (x0 : S57) (x1 : ByteArray) (y0 : S50) (r : List S70) (left0 : Int) (m0 : Int) (m1 : Int)
    (p0 : decide ((x1.size : Int) > 1048576) = false)
    (p1 : ∃ k, laws_szDB.f k (x0.f0) 1048576 = some left0)
    (p2 : decide (left0 < 0) = false)
    (p3 : ∃ k, laws_toDB.f k (x0.f0) = some (y0.f0))
    (p4 : ∃ k, spec_RowsOf.f k (y0.f0) x1 = some (r))
    (p5 : ∃ k, impl_RowsOf.f k (y0.f0) x1 = some (r))
    (p6 : ∃ k, laws_eqValueS.f k (r) (r) = some true)
    (p7 : ∃ k, laws_eqDB.f k (y0.f0) (y0.f0) = some true)
    (p8 : MarksTableDataS y0.f0)
    (p9 : (1 + (cnTableDataS y0.f0 : Nat) : Int) ≤ 4611686018427387000)
    (p10 : m0 = 1 + (cnTableDataS y0.f0 : Nat))
    (p11 : decide (m0 < 0) = false)
    (p12 : MarksValueS r)
    (p13 : (1 + (cnValueS r : Nat) : Int) ≤ 4611686018427387000)
    (p14 : m1 = 1 + (cnValueS r : Nat))
    (p15 : decide (m1 < 0) = false)
    (p16 : ∃ k, laws_heldValueS.f k (mkValueS r (1)) 1 = some m1)
    (W : World) {A0f0 : Option Addr} {c0f0 : Nat} (hHA0f0 : Kd.C k142 W A0f0 x0.f0.length x0.f0) (kHA0f0 : x0.f0.length ≤ c0f0) :
    Calls Try.prog 6 #[.agg #[.slice A0f0 x0.f0.length c0f0], .string x1] W fun e w' => e = .returned (.bool true) ∧ Below W.heap.size W w' := by
  have HA0f0 := Aside0.mk hHA0f0
  clear hHA0f0
  have Hp10 := Aside0.mk p10
  clear p10
  have Hp14 := Aside0.mk p14
  clear p14
  have HB := Aside0.mk (Below.refl W.heap.size W)
  have HZ := Aside0.mk (Nat.le_refl W.heap.size)
  have HZ0 := Aside0.mk (Nat.le_refl W.heap.size)
  go_enter Try.func6, Try.ntmps6
  go_wp2_with (first
    | ((with_reducible refine gate_dst (N := 2) rfl ?_)
       refine box_event ?hg (N := 2) ?hd (cs := #[.slice A0f0 x0.f0.length c0f0]) (t := 57) ?hr ?_; (case hd => rfl); (case hg => rfl); (case hr => first | (go_simp; done) | (go_simp; rfl))
       intro gb2 hg w1 hbox hb
       have Lgb2 := Aside0.mk (show W.heap.size ≤ gb2 by rw [hg]; exact HZ.out)
       have n1 := below_step HB.out hb
       have n2 := Nat.le_trans HZ.out hb.size
       clear HB HZ
       have HB := Aside0.mk n1
       have HZ := Aside0.mk n2
       clear n1 n2
       have BK2 := Aside0.mk hbox
       replace HZ := Aside0.mk (show gb2 + 1 ≤ w1.heap.size from blk_lt hbox)
       clear hbox hb hg
       have hx2_0 : w1.cell? ⟨gb2, 0, none⟩ = some (.slice A0f0 x0.f0.length c0f0) := (blk_cell BK2.out 0).trans rfl)
    | ((with_reducible refine gate_callee (f := 30) rfl ?_)
       refine goesL_ (some 18) rfl rfl Try.func30 (by kernel_rfl) rfl #[.agg #[.slice A0f0 x0.f0.length c0f0], .int .i64 1048576] rfl (by (try simp only [List.map_toArray, List.map_cons, List.map_nil]); first | done | rfl) ?_
       have hh := p1
       obtain ⟨kq3, eq3⟩ := hh
       (with_reducible refine (laws_szDB.calls kq3 _ _ (x0.f0) 1048576 left0 _ (Kd.C_below HA0f0.out HB.out) kHA0f0 eq3).mono ?_)
       rintro e w2 ⟨rfl, hb⟩
       refine ⟨_, rfl, ?_⟩
       clear hx2_0
       have n1 := blk_below BK2.out hb
       have n2 := below_step HB.out hb
       have n3 := Nat.le_trans HZ.out hb.size
       clear BK2 HB HZ
       have BK2 := Aside0.mk n1
       have HB := Aside0.mk n2
       have HZ := Aside0.mk n3
       clear n1 n2 n3
       clear hb
       have hx2_0 : w2.cell? ⟨gb2, 0, none⟩ = some (.slice A0f0 x0.f0.length c0f0) := (blk_cell BK2.out 0).trans rfl)
    | ((with_reducible refine gate_callee (f := 32) rfl ?_)
       refine goesL_ (some 22) rfl rfl Try.func32 (by kernel_rfl) rfl #[.agg #[.slice A0f0 x0.f0.length c0f0]] rfl (by (try simp only [List.map_toArray, List.map_cons, List.map_nil]); first | done | rfl) ?_
       have hh := p3
       obtain ⟨kq5, eq5⟩ := hh
       (with_reducible refine (laws_toDB.calls kq5 _ _ (x0.f0) (y0.f0) _ (Kd.C_below HA0f0.out HB.out) kHA0f0 eq5).mono ?_)
       rintro e w4 ⟨u0, rfl, ho0, hb⟩
       refine ⟨_, rfl, ?_⟩
       clear hx2_0
       obtain ⟨n7, en7⟩ : ∃ n, n = w2.heap.size := ⟨_, rfl⟩
       obtain ⟨n8, en8⟩ : ∃ n, n = w4.heap.size := ⟨_, rfl⟩
       have En7 := Aside0.mk en7; have En8 := Aside0.mk en8
       clear en7 en8
       have Hq6f0 := Aside0.mk (Ow.S_iv (base := W.heap.size) ho0 En7.out En8.out (by have := HZ.out; have := Lgb2.out; have := En7.out; omega))
       clear ho0
       obtain ⟨Aq6f0, cq6f0, ea⟩ := Kd.S_slice Hq6f0.out
       subst ea
       have Ln7 := Aside0.mk (show (gb2 + 1) ≤ n7 ∧ n7 ≤ n8 by have := HZ.out; have := hb.size; have := En7.out; have := En8.out; omega)
       have n1 := blk_below BK2.out hb
       have n2 := below_step HB.out hb
       have n3 := Nat.le_trans HZ.out hb.size
       clear BK2 HB HZ
       have BK2 := Aside0.mk n1
       have HB := Aside0.mk n2
       have HZ := Aside0.mk n3
       clear n1 n2 n3
       replace HZ := Aside0.mk (show n8 ≤ w4.heap.size by have := En8.out; omega)
       clear hb)
    | ((with_reducible refine gate_callee (f := 31) rfl ?_)
       refine goesL_ (some 24) rfl rfl Try.func31 (by kernel_rfl) rfl #[.agg #[.slice Aq6f0 y0.f0.length cq6f0], .string x1] rfl (by (try simp only [List.map_toArray, List.map_cons, List.map_nil]); first | done | rfl) ?_
       have hh := p4
       obtain ⟨kq10, eq10⟩ := hh
       (with_reducible refine (spec_RowsOf.calls kq10 _ _ (y0.f0) x1 r _ (Kd.S_reads' Hq6f0.out).2.2 (Kd.S_reads' Hq6f0.out).2.1 eq10).mono ?_)
       rintro e w9 ⟨u0, rfl, ho0, hb⟩
       refine ⟨_, rfl, ?_⟩
       obtain ⟨n12, en12⟩ : ∃ n, n = w4.heap.size := ⟨_, rfl⟩
       obtain ⟨n13, en13⟩ : ∃ n, n = w9.heap.size := ⟨_, rfl⟩
       have En12 := Aside0.mk en12; have En13 := Aside0.mk en13
       clear en12 en13
       have Hq11 := Aside0.mk (Ow.S_iv (base := W.heap.size) ho0 En12.out En13.out (by have := HZ.out; have := Lgb2.out; have := Ln7.out; have := En12.out; omega))
       clear ho0
       obtain ⟨Aq11, cq11, ea⟩ := Kd.S_slice Hq11.out
       subst ea
       have Ln12 := Aside0.mk (show n8 ≤ n12 ∧ n12 ≤ n13 by have := HZ.out; have := hb.size; have := En12.out; have := En13.out; omega)
       have n1 := Kd.S_below Hq6f0.out hb
       have n2 := blk_below BK2.out hb
       have n3 := below_step HB.out hb
       have n4 := Nat.le_trans HZ.out hb.size
       clear Hq6f0 BK2 HB HZ
       have Hq6f0 := Aside0.mk n1
       have BK2 := Aside0.mk n2
       have HB := Aside0.mk n3
       have HZ := Aside0.mk n4
       clear n1 n2 n3 n4
       replace HZ := Aside0.mk (show n13 ≤ w9.heap.size by have := En13.out; omega)
       clear hb
       have hx2_0 : w9.cell? ⟨gb2, 0, none⟩ = some (.slice A0f0 x0.f0.length c0f0) := (blk_cell BK2.out 0).trans rfl)
    | ((with_reducible refine gate_callee (f := 32) rfl ?_)
       refine goesL_ (some 26) rfl rfl Try.func32 (by kernel_rfl) rfl #[.agg #[.slice A0f0 x0.f0.length c0f0]] rfl (by (try simp only [List.map_toArray, List.map_cons, List.map_nil]); first | done | rfl) ?_
       have hh := p3
       obtain ⟨kq15, eq15⟩ := hh
       (with_reducible refine (laws_toDB.calls kq15 _ _ (x0.f0) (y0.f0) _ (Kd.C_below HA0f0.out HB.out) kHA0f0 eq15).mono ?_)
       rintro e w14 ⟨u0, rfl, ho0, hb⟩
       refine ⟨_, rfl, ?_⟩
       clear hx2_0
       obtain ⟨n17, en17⟩ : ∃ n, n = w9.heap.size := ⟨_, rfl⟩
       obtain ⟨n18, en18⟩ : ∃ n, n = w14.heap.size := ⟨_, rfl⟩
       have En17 := Aside0.mk en17; have En18 := Aside0.mk en18
       clear en17 en18
       have Hq16f0 := Aside0.mk (Ow.S_iv (base := W.heap.size) ho0 En17.out En18.out (by have := HZ.out; have := Lgb2.out; have := Ln7.out; have := Ln12.out; have := En17.out; omega))
       clear ho0
       obtain ⟨Aq16f0, cq16f0, ea⟩ := Kd.S_slice Hq16f0.out
       subst ea
       have Ln17 := Aside0.mk (show n13 ≤ n17 ∧ n17 ≤ n18 by have := HZ.out; have := hb.size; have := En17.out; have := En18.out; omega)
       have n1 := Kd.S_below Hq11.out hb
       have n2 := blk_below BK2.out hb
       have n3 := below_step HB.out hb
       have n4 := Nat.le_trans HZ.out hb.size
       clear Hq11 BK2 HB HZ
       have Hq11 := Aside0.mk n1
       have BK2 := Aside0.mk n2
       have HB := Aside0.mk n3
       have HZ := Aside0.mk n4
       clear n1 n2 n3 n4
       replace HZ := Aside0.mk (show n18 ≤ w14.heap.size by have := En18.out; omega)
       clear hb)
    | ((with_reducible refine gate_dst (N := 7) rfl ?_)
       refine box_event ?hg (N := 7) ?hd (cs := #[.slice none 0 0]) (t := 50) ?hr ?_; (case hd => rfl); (case hg => rfl); (case hr => first | (go_simp; done) | (go_simp; rfl))
       intro gb7 hg w19 hbox hbA
       have HBA := Aside0.mk hbA; have HGA := Aside0.mk hg; have HXA := Aside0.mk hbox
       clear hbA hg hbox
       have hx7_0 : w19.cell? ⟨gb7, 0, none⟩ = some (.slice none 0 0) := (blk_cell HXA.out 0).trans rfl
       have hf7_0 := blk_frozen HXA.out 0)
    | ((with_reducible refine gate_store (t := 50) (p := 7) rfl ?_)
       refine store_event (t := 50) (p := 7) (v := ?vo_w20) (w1 := (w19.setCell ⟨gb7, 0, none⟩ (.slice Aq16f0 y0.f0.length cq16f0))) ?hg ?ho ?hn ?hr ?_; (case ho => rfl); (case hg => rfl); (case hn => rfl); (case hr => first | (go_simp; done) | (go_simp; rfl)); intro w20 hw
       have hb : Below w14.heap.size w14 w20 := by rw [hw]; exact below_set (HBA.out) (Nat.le_of_eq HGA.out.symm)
       have hbox : w20.heap[gb7]? = some (.cells #[.slice Aq16f0 y0.f0.length cq16f0] 50 (0, 0)) := by rw [hw]; exact blk_put (cs := #[.slice none 0 0]) (HXA.out) 0 (.slice Aq16f0 y0.f0.length cq16f0) rfl
       have Lgb7 := Aside0.mk (show n18 ≤ gb7 by rw [HGA.out]; exact HZ.out)
       clear hw HBA HGA HXA hx7_0 hf7_0
       have n1 := Kd.S_below Hq11.out hb
       have n2 := Kd.S_below Hq16f0.out hb
       have n3 := blk_below BK2.out hb
       have n4 := below_step HB.out hb
       have n5 := Nat.le_trans HZ.out hb.size
       clear Hq11 Hq16f0 BK2 HB HZ
       have Hq11 := Aside0.mk n1
       have Hq16f0 := Aside0.mk n2
       have BK2 := Aside0.mk n3
       have HB := Aside0.mk n4
       have HZ := Aside0.mk n5
       clear n1 n2 n3 n4 n5
       have BK7 := Aside0.mk hbox
       replace HZ := Aside0.mk (show gb7 + 1 ≤ w20.heap.size from blk_lt hbox)
       clear hbox hb
       have hx7_0 : w20.cell? ⟨gb7, 0, none⟩ = some (.slice Aq16f0 y0.f0.length cq16f0) := (blk_cell BK7.out 0).trans rfl)
    | ((with_reducible refine gate_callee (f := 33) rfl ?_)
       refine goesL_ (some 29) rfl rfl Try.func33 (by kernel_rfl) rfl #[.agg #[.slice Aq16f0 y0.f0.length cq16f0], .string x1] rfl (by (try simp only [List.map_toArray, List.map_cons, List.map_nil]); first | done | rfl) ?_
       have hh := p5
       obtain ⟨kq22, eq22⟩ := hh
       (with_reducible refine (impl_RowsOf.calls kq22 _ _ (y0.f0) x1 r _ (Kd.S_reads' Hq16f0.out).2.2 (Kd.S_reads' Hq16f0.out).2.1 eq22).mono ?_)
       rintro e w21 ⟨u0, rfl, ho0, hb⟩
       refine ⟨_, rfl, ?_⟩
       clear hx7_0
       obtain ⟨n24, en24⟩ : ∃ n, n = w20.heap.size := ⟨_, rfl⟩
       obtain ⟨n25, en25⟩ : ∃ n, n = w21.heap.size := ⟨_, rfl⟩
       have En24 := Aside0.mk en24; have En25 := Aside0.mk en25
       clear en24 en25
       have Hq23 := Aside0.mk (Ow.S_iv (base := W.heap.size) ho0 En24.out En25.out (by have := HZ.out; have := Lgb2.out; have := Ln7.out; have := Ln12.out; have := Ln17.out; have := Lgb7.out; have := En24.out; omega))
       clear ho0
       obtain ⟨Aq23, cq23, ea⟩ := Kd.S_slice Hq23.out
       subst ea
       have Ln24 := Aside0.mk (show (gb7 + 1) ≤ n24 ∧ n24 ≤ n25 by have := HZ.out; have := hb.size; have := En24.out; have := En25.out; omega)
       have n1 := Kd.S_below Hq11.out hb
       have n2 := Kd.S_below Hq16f0.out hb
       have n3 := blk_below BK2.out hb
       have n4 := blk_below BK7.out hb
       have n5 := below_step HB.out hb
       have n6 := Nat.le_trans HZ.out hb.size
       clear Hq11 Hq16f0 BK2 BK7 HB HZ
       have Hq11 := Aside0.mk n1
       have Hq16f0 := Aside0.mk n2
       have BK2 := Aside0.mk n3
       have BK7 := Aside0.mk n4
       have HB := Aside0.mk n5
       have HZ := Aside0.mk n6
       clear n1 n2 n3 n4 n5 n6
       replace HZ := Aside0.mk (show n25 ≤ w21.heap.size by have := En25.out; omega)
       clear hb)
    | ((with_reducible refine gate_callee (f := 34) rfl ?_)
       refine goesL_ (some 32) rfl rfl Try.func34 (by kernel_rfl) rfl #[.slice Aq23 r.length cq23, .slice Aq11 r.length cq11] rfl (by (try simp only [List.map_toArray, List.map_cons, List.map_nil]); first | done | rfl) ?_
       have hh := p6
       obtain ⟨kq27, eq27⟩ := hh
       (with_reducible refine (laws_eqValueS.calls kq27 _ _ (r) _ _ (r) true _ (Kd.S_reads' Hq23.out).2.2 (Kd.S_reads' Hq23.out).2.1 (Kd.S_reads' Hq11.out).2.2 (Kd.S_reads' Hq11.out).2.1 eq27).mono ?_)
       rintro e w26 ⟨rfl, hb⟩
       refine ⟨_, rfl, ?_⟩
       have n1 := Kd.S_below Hq11.out hb
       have n2 := Kd.S_below Hq16f0.out hb
       have n3 := Kd.S_below Hq23.out hb
       have n4 := blk_below BK2.out hb
       have n5 := blk_below BK7.out hb
       have n6 := below_step HB.out hb
       have n7 := Nat.le_trans HZ.out hb.size
       clear Hq11 Hq16f0 Hq23 BK2 BK7 HB HZ
       have Hq11 := Aside0.mk n1
       have Hq16f0 := Aside0.mk n2
       have Hq23 := Aside0.mk n3
       have BK2 := Aside0.mk n4
       have BK7 := Aside0.mk n5
       have HB := Aside0.mk n6
       have HZ := Aside0.mk n7
       clear n1 n2 n3 n4 n5 n6 n7
       clear hb
       have hx7_0 : w26.cell? ⟨gb7, 0, none⟩ = some (.slice Aq16f0 y0.f0.length cq16f0) := (blk_cell BK7.out 0).trans rfl
       have hx2_0 : w26.cell? ⟨gb2, 0, none⟩ = some (.slice A0f0 x0.f0.length c0f0) := (blk_cell BK2.out 0).trans rfl))
  replace Hq11 := Aside0.mk (Kd.S_drew Hq11.out)
  replace Hq16f0 := Aside0.mk (Kd.S_drew Hq16f0.out)
  replace Hq23 := Aside0.mk (Kd.S_drew Hq23.out)
  replace BK2 := Aside0.mk (blk_drew BK2.out)
  replace BK7 := Aside0.mk (blk_drew BK7.out)
  replace HB := Aside0.mk (below_drew1 HB.out)
  replace HZ : Aside0 (n25 ≤ w26.drew.heap.size) := HZ
  refine start_ (n := 5) (S := fun w' => w'.cell? ⟨gb7, 0, none⟩ = some (.slice Aq16f0 y0.f0.length cq16f0) ∧ w'.cell? ⟨gb2, 0, none⟩ = some (.slice A0f0 x0.f0.length c0f0)) (ds := []) #[false, false, false, false, false] (by kernel_rfl) rfl rfl ⟨(blk_cell BK7.out 0).trans rfl, (blk_cell BK2.out 0).trans rfl⟩ (fun hHeld => ?_)
  generalize w26.drew = w28 at Hq11 Hq16f0 Hq23 BK2 BK7 HB HZ hHeld ⊢
  refine take_ (i := 0) (N := some 34) (v := ?_) (a' := ?_) #[true, false, false, false, false] rfl rfl (by kernel_rfl) (fun _ _ _ h => h) (Or.inl ⟨by rfl, ?_⟩) hHeld ?_ ?_
  rotate_left
  · rintro w' ⟨s0, s1⟩
    go_simp
    with_reducible rfl
  rotate_left
  · simp only [Act.put, List.setIfInBounds_toArray, List.set_cons_zero, List.set_cons_succ, i64_w, i32_w]
    rfl
  refine take_ (i := 1) (N := some 35) (v := ?_) (a' := ?_) #[true, true, false, false, false] rfl rfl (by kernel_rfl) (fun _ _ _ h => h) (Or.inl ⟨by rfl, ?_⟩) hHeld ?_ ?_
  rotate_left
  · rintro w' ⟨s0, s1⟩
    go_simp
    with_reducible rfl
  rotate_left
  · simp only [Act.put, List.setIfInBounds_toArray, List.set_cons_zero, List.set_cons_succ, i64_w, i32_w]
    rfl
  have hh := p3
  obtain ⟨kq29, eq29⟩ := hh
  have Eq29 := Aside0.mk eq29
  clear eq29
  refine one_ (i := 2) (N := some 36) #[true, true, true, false, false] rfl rfl (by kernel_rfl) (by decide) (fun K hK => ?_)
  refine goes_ Try.func32 (by kernel_rfl) rfl #[.agg #[.slice A0f0 x0.f0.length c0f0]] (by rfl) rfl rfl (by (try simp only [List.map_toArray, List.map_cons, List.map_nil]); first | done | rfl) ?_
  with_reducible refine (laws_toDB.calls kq29 _ _ (x0.f0) (y0.f0) _ (Kd.C_below HA0f0.out HB.out) kHA0f0 Eq29.out).mono ?_
  rintro e w32 ⟨u0, rfl, ho0, hb⟩
  refine ⟨_, rfl, ?_⟩
  obtain ⟨n30, en30⟩ : ∃ n, n = w28.heap.size := ⟨_, rfl⟩
  obtain ⟨n31, en31⟩ : ∃ n, n = w32.heap.size := ⟨_, rfl⟩
  have En30 := Aside0.mk en30; have En31 := Aside0.mk en31
  clear en30 en31
  have Hq29f0 := Aside0.mk (Ow.S_iv (base := W.heap.size) ho0 En30.out En31.out (by have := HZ.out; have := Lgb2.out; have := Ln7.out; have := Ln12.out; have := Ln17.out; have := Lgb7.out; have := Ln24.out; have := En30.out; omega))
  clear ho0
  obtain ⟨Aq29f0, cq29f0, ea⟩ := Kd.S_slice Hq29f0.out
  subst ea
  have Ln30 := Aside0.mk (show n25 ≤ n30 ∧ n30 ≤ n31 by have := HZ.out; have := hb.size; have := En30.out; have := En31.out; omega)
  have n1 := Kd.S_below Hq11.out hb
  have n2 := Kd.S_below Hq16f0.out hb
  have n3 := Kd.S_below Hq23.out hb
  have n4 := blk_below BK2.out hb
  have n5 := blk_below BK7.out hb
  have n6 := below_step HB.out hb
  have n7 := Nat.le_trans HZ.out hb.size
  clear Hq11 Hq16f0 Hq23 BK2 BK7 HB HZ
  have Hq11 := Aside0.mk n1
  have Hq16f0 := Aside0.mk n2
  have Hq23 := Aside0.mk n3
  have BK2 := Aside0.mk n4
  have BK7 := Aside0.mk n5
  have HB := Aside0.mk n6
  have HZ := Aside0.mk n7
  clear n1 n2 n3 n4 n5 n6 n7
  replace HZ := Aside0.mk (show n31 ≤ w32.heap.size by have := En31.out; omega)
  clear hb
  refine hK.out _ _ ⟨(blk_cell BK7.out 0).trans rfl, (blk_cell BK2.out 0).trans rfl⟩ (fun hHeld => ?_)
  clear hK K
  refine norm_ (a' := ?_) ?_ ?_
  rotate_left
  · show Act.put _ (some 36) _ = _
    simp only [Act.put, List.setIfInBounds_toArray, List.set_cons_zero, List.set_cons_succ, i64_w, i32_w]
    rfl
  have hh := p7
  obtain ⟨kq34, eq34⟩ := hh
  have Eq34 := Aside0.mk eq34
  clear eq34
  refine one_ (i := 3) (N := some 37) #[true, true, true, true, false] rfl rfl (by kernel_rfl) (by decide) (fun K hK => ?_)
  refine goes_ Try.func27 (by kernel_rfl) rfl #[.agg #[.slice Aq16f0 y0.f0.length cq16f0], .agg #[.slice Aq29f0 y0.f0.length cq29f0]] (by rfl) rfl rfl (by (try simp only [List.map_toArray, List.map_cons, List.map_nil]); first | done | rfl) ?_
  with_reducible refine (laws_eqDB.calls kq34 _ _ (y0.f0) _ _ (y0.f0) true _ (Kd.S_reads' Hq16f0.out).2.2 (Kd.S_reads' Hq16f0.out).2.1 (Kd.S_reads' Hq29f0.out).2.2 (Kd.S_reads' Hq29f0.out).2.1 Eq34.out).mono ?_
  rintro e w33 ⟨rfl, hb⟩
  refine ⟨_, rfl, ?_⟩
  have n1 := Kd.S_below Hq11.out hb
  have n2 := Kd.S_below Hq16f0.out hb
  have n3 := Kd.S_below Hq23.out hb
  have n4 := blk_below BK2.out hb
  have n5 := blk_below BK7.out hb
  have n6 := below_step HB.out hb
  have n7 := Nat.le_trans HZ.out hb.size
  clear Hq11 Hq16f0 Hq23 BK2 BK7 HB HZ
  have Hq11 := Aside0.mk n1
  have Hq16f0 := Aside0.mk n2
  have Hq23 := Aside0.mk n3
  have BK2 := Aside0.mk n4
  have BK7 := Aside0.mk n5
  have HB := Aside0.mk n6
  have HZ := Aside0.mk n7
  clear n1 n2 n3 n4 n5 n6 n7
  clear hb
  refine hK.out _ _ ⟨(blk_cell BK7.out 0).trans rfl, (blk_cell BK2.out 0).trans rfl⟩ (fun hHeld => ?_)
  clear hK K
  refine norm_ (a' := ?_) ?_ ?_
  rotate_left
  · show Act.put _ (some 37) _ = _
    simp only [Act.put, List.setIfInBounds_toArray, List.set_cons_zero, List.set_cons_succ, i64_w, i32_w]
    rfl
  refine pure_ (i := 4) (N := some 38) (v := ?_) (a' := ?_) #[true, true, true, true, true] rfl rfl (by kernel_rfl) (fun _ _ _ h => h) (Or.inl ⟨by rfl, ?_⟩) ?_ ?_
  rotate_left
  · intro w'
    go_simp
    with_reducible rfl
  rotate_left
  · simp only [Act.put, List.setIfInBounds_toArray, List.set_cons_zero, List.set_cons_succ, i64_w, i32_w]
    rfl
  refine done_ (by kernel_rfl) ?_
  clear hHeld
  have hx7_0 : w33.cell? ⟨gb7, 0, none⟩ = some (.slice Aq16f0 y0.f0.length cq16f0) := (blk_cell BK7.out 0).trans rfl
  go_wp2_with (first
    | ((with_reducible refine gate_callee (f := 28) rfl ?_)
       refine goesL_ (some 41) rfl rfl Try.func28 (by kernel_rfl) rfl #[.agg #[.slice Aq16f0 y0.f0.length cq16f0], .int .i64 1] rfl (by (try simp only [List.map_toArray, List.map_cons, List.map_nil]); first | done | rfl) ?_
       (with_reducible refine (markDB_own y0 p8 1 (by decide) p9 _ (fun k => (True) ∧ n17 ≤ k ∧ k < n18) W _ HB.out Hq16f0.out (fun k hk => by have := HZ.out; have := Lgb2.out; have := Ln7.out; have := Ln12.out; have := Ln17.out; have := Lgb7.out; have := Ln24.out; have := Ln30.out; have := hk.2; omega)).mono ?_)
       rintro e w35 ⟨he, hr0, hb2, hk⟩
       obtain rfl : e = .returned (.int .i64 m0) := by rw [he, Hp10.out]
       clear he
       refine ⟨_, rfl, ?_⟩
       clear hx7_0
       clear Hq16f0
       have n1 := Kd.S_kept Hq11.out hk (fun k hk h1 => by have := Lgb2.out; have := Ln7.out; have := Ln12.out; have := Ln17.out; have := Lgb7.out; have := Ln24.out; have := Ln30.out; have := hk.2; have := h1.2; omega)
       have n2 := Kd.S_kept Hq23.out hk (fun k hk h1 => by have := Lgb2.out; have := Ln7.out; have := Ln12.out; have := Ln17.out; have := Lgb7.out; have := Ln24.out; have := Ln30.out; have := hk.2; have := h1.2; omega)
       have n3 := blk_kept BK2.out hk (fun h1 => by have := Lgb2.out; have := Ln7.out; have := Ln12.out; have := Ln17.out; have := Lgb7.out; have := Ln24.out; have := Ln30.out; have := h1.2; omega)
       have n4 := blk_kept BK7.out hk (fun h1 => by have := Lgb2.out; have := Ln7.out; have := Ln12.out; have := Ln17.out; have := Lgb7.out; have := Ln24.out; have := Ln30.out; have := h1.2; omega)
       have n5 := Nat.le_trans HZ.out hk.1
       clear Hq11 Hq23 BK2 BK7 HZ
       have Hq11 := Aside0.mk n1
       have Hq23 := Aside0.mk n2
       have BK2 := Aside0.mk n3
       have BK7 := Aside0.mk n4
       have HZ := Aside0.mk n5
       clear n1 n2 n3 n4 n5
       have n1 := hb2; clear HB; have HB := Aside0.mk n1; clear n1
       have Hq16f0 := Aside0.mk hr0
       clear hb2 hk hr0)
    | (go_at_call 34
       have hh := p6
       obtain ⟨kq38, eq38⟩ := hh
       (with_reducible refine (laws_eqValueS.calls kq38 _ _ (r) _ _ (r) true _ (Kd.S_reads' Hq23.out).2.2 (Kd.S_reads' Hq23.out).2.1 (Kd.S_reads' Hq11.out).2.2 (Kd.S_reads' Hq11.out).2.1 eq38).mono ?_)
       rintro e w37 ⟨rfl, hb⟩
       have n1 := Kd.S_below Hq11.out hb
       have n2 := Kd.S_below Hq16f0.out hb
       have n3 := Kd.S_below Hq23.out hb
       have n4 := blk_below BK2.out hb
       have n5 := blk_below BK7.out hb
       have n6 := below_step HB.out hb
       have n7 := Nat.le_trans HZ.out hb.size
       clear Hq11 Hq16f0 Hq23 BK2 BK7 HB HZ
       have Hq11 := Aside0.mk n1
       have Hq16f0 := Aside0.mk n2
       have Hq23 := Aside0.mk n3
       have BK2 := Aside0.mk n4
       have BK7 := Aside0.mk n5
       have HB := Aside0.mk n6
       have HZ := Aside0.mk n7
       clear n1 n2 n3 n4 n5 n6 n7
       clear hb)
    | ((with_reducible refine gate_callee (f := 35) rfl ?_)
       refine goesL_ (some 52) rfl rfl Try.func35 (by kernel_rfl) rfl #[.slice Aq23 r.length cq23, .int .i64 1] rfl (by (try simp only [List.map_toArray, List.map_cons, List.map_nil]); first | done | rfl) ?_
       (with_reducible refine (MarksValueS.go p12 1 _ (fun k => (True) ∧ n24 ≤ k ∧ k < n25) W _ (by decide) p13 HB.out Hq23.out).mono ?_)
       rintro e w39 ⟨he, hr0, hb2, hk⟩
       obtain rfl : e = .returned (.int .i64 m1) := by rw [he, Hp14.out]
       clear he
       refine ⟨_, rfl, ?_⟩
       clear Hq23
       have n1 := Kd.S_kept Hq11.out hk (fun k hk h1 => by have := Lgb2.out; have := Ln7.out; have := Ln12.out; have := Ln17.out; have := Lgb7.out; have := Ln24.out; have := Ln30.out; have := hk.2; have := h1.2; omega)
       have n2 := Kd.S_kept Hq16f0.out hk (fun k hk h1 => by have := Lgb2.out; have := Ln7.out; have := Ln12.out; have := Ln17.out; have := Lgb7.out; have := Ln24.out; have := Ln30.out; have := hk.2; have := h1.2; omega)
       have n3 := blk_kept BK2.out hk (fun h1 => by have := Lgb2.out; have := Ln7.out; have := Ln12.out; have := Ln17.out; have := Lgb7.out; have := Ln24.out; have := Ln30.out; have := h1.2; omega)
       have n4 := blk_kept BK7.out hk (fun h1 => by have := Lgb2.out; have := Ln7.out; have := Ln12.out; have := Ln17.out; have := Lgb7.out; have := Ln24.out; have := Ln30.out; have := h1.2; omega)
       have n5 := Nat.le_trans HZ.out hk.1
       clear Hq11 Hq16f0 BK2 BK7 HZ
       have Hq11 := Aside0.mk n1
       have Hq16f0 := Aside0.mk n2
       have BK2 := Aside0.mk n3
       have BK7 := Aside0.mk n4
       have HZ := Aside0.mk n5
       clear n1 n2 n3 n4 n5
       have n1 := hb2; clear HB; have HB := Aside0.mk n1; clear n1
       have Hq23 := Aside0.mk hr0
       clear hb2 hk hr0)
    | ((with_reducible refine gate_callee (f := 36) rfl ?_)
       refine goesL_ (some 55) rfl rfl Try.func36 (by kernel_rfl) rfl #[.slice Aq23 r.length cq23, .int .i64 1] rfl (by (try simp only [List.map_toArray, List.map_cons, List.map_nil]); first | done | rfl) ?_
       have hh := p16
       obtain ⟨kq42, eq42⟩ := hh
       refine calls_of_args (args' := #[.slice Aq23 (mkValueS r (1)).length cq23, .int .i64 1]) (by simp only [mtS_length, mkValueS_length]) ?_
       (with_reducible refine (laws_heldValueS.calls kq42 _ _ (mkValueS r (1)) 1 m1 _ (by first | exact (Kd.S_reads' Hq23.out).2.2 | (rw [mkValueS_length]; exact (Kd.S_reads' Hq23.out).2.2)) (by first | exact (Kd.S_reads' Hq23.out).2.1 | (rw [mkValueS_length]; exact (Kd.S_reads' Hq23.out).2.1)) eq42).mono ?_)
       rintro e w41 ⟨rfl, hb⟩
       refine ⟨_, rfl, ?_⟩
       have n1 := Kd.S_below Hq11.out hb
       have n2 := Kd.S_below Hq16f0.out hb
       have n3 := Kd.S_below Hq23.out hb
       have n4 := blk_below BK2.out hb
       have n5 := blk_below BK7.out hb
       have n6 := below_step HB.out hb
       have n7 := Nat.le_trans HZ.out hb.size
       clear Hq11 Hq16f0 Hq23 BK2 BK7 HB HZ
       have Hq11 := Aside0.mk n1
       have Hq16f0 := Aside0.mk n2
       have Hq23 := Aside0.mk n3
       have BK2 := Aside0.mk n4
       have BK7 := Aside0.mk n5
       have HB := Aside0.mk n6
       have HZ := Aside0.mk n7
       clear n1 n2 n3 n4 n5 n6 n7
       clear hb
       have hx2_0 : w41.cell? ⟨gb2, 0, none⟩ = some (.slice A0f0 x0.f0.length c0f0) := (blk_cell BK2.out 0).trans rfl)
    | ((with_reducible refine gate_callee (f := 32) rfl ?_)
       refine goesL_ (some 62) rfl rfl Try.func32 (by kernel_rfl) rfl #[.agg #[.slice A0f0 x0.f0.length c0f0]] rfl (by (try simp only [List.map_toArray, List.map_cons, List.map_nil]); first | done | rfl) ?_
       have hh := p3
       obtain ⟨kq44, eq44⟩ := hh
       (with_reducible refine (laws_toDB.calls kq44 _ _ (x0.f0) (y0.f0) _ (Kd.C_below HA0f0.out HB.out) kHA0f0 eq44).mono ?_)
       rintro e w43 ⟨u0, rfl, ho0, hb⟩
       refine ⟨_, rfl, ?_⟩
       clear hx2_0
       obtain ⟨n46, en46⟩ : ∃ n, n = w41.heap.size := ⟨_, rfl⟩
       obtain ⟨n47, en47⟩ : ∃ n, n = w43.heap.size := ⟨_, rfl⟩
       have En46 := Aside0.mk en46; have En47 := Aside0.mk en47
       clear en46 en47
       have Hq45f0 := Aside0.mk (Ow.S_iv (base := W.heap.size) ho0 En46.out En47.out (by have := HZ.out; have := Lgb2.out; have := Ln7.out; have := Ln12.out; have := Ln17.out; have := Lgb7.out; have := Ln24.out; have := Ln30.out; have := En46.out; omega))
       clear ho0
       obtain ⟨Aq45f0, cq45f0, ea⟩ := Kd.S_slice Hq45f0.out
       subst ea
       have Ln46 := Aside0.mk (show n31 ≤ n46 ∧ n46 ≤ n47 by have := HZ.out; have := hb.size; have := En46.out; have := En47.out; omega)
       have n1 := Kd.S_below Hq11.out hb
       have n2 := Kd.S_below Hq16f0.out hb
       have n3 := Kd.S_below Hq23.out hb
       have n4 := blk_below BK2.out hb
       have n5 := blk_below BK7.out hb
       have n6 := below_step HB.out hb
       have n7 := Nat.le_trans HZ.out hb.size
       clear Hq11 Hq16f0 Hq23 BK2 BK7 HB HZ
       have Hq11 := Aside0.mk n1
       have Hq16f0 := Aside0.mk n2
       have Hq23 := Aside0.mk n3
       have BK2 := Aside0.mk n4
       have BK7 := Aside0.mk n5
       have HB := Aside0.mk n6
       have HZ := Aside0.mk n7
       clear n1 n2 n3 n4 n5 n6 n7
       replace HZ := Aside0.mk (show n47 ≤ w43.heap.size by have := En47.out; omega)
       clear hb)
    | ((with_reducible refine gate_callee (f := 33) rfl ?_)
       refine goesL_ (some 64) rfl rfl Try.func33 (by kernel_rfl) rfl #[.agg #[.slice Aq45f0 y0.f0.length cq45f0], .string x1] rfl (by (try simp only [List.map_toArray, List.map_cons, List.map_nil]); first | done | rfl) ?_
       have hh := p5
       obtain ⟨kq49, eq49⟩ := hh
       (with_reducible refine (impl_RowsOf.calls kq49 _ _ (y0.f0) x1 r _ (Kd.S_reads' Hq45f0.out).2.2 (Kd.S_reads' Hq45f0.out).2.1 eq49).mono ?_)
       rintro e w48 ⟨u0, rfl, ho0, hb⟩
       refine ⟨_, rfl, ?_⟩
       obtain ⟨n51, en51⟩ : ∃ n, n = w43.heap.size := ⟨_, rfl⟩
       obtain ⟨n52, en52⟩ : ∃ n, n = w48.heap.size := ⟨_, rfl⟩
       have En51 := Aside0.mk en51; have En52 := Aside0.mk en52
       clear en51 en52
       have Hq50 := Aside0.mk (Ow.S_iv (base := W.heap.size) ho0 En51.out En52.out (by have := HZ.out; have := Lgb2.out; have := Ln7.out; have := Ln12.out; have := Ln17.out; have := Lgb7.out; have := Ln24.out; have := Ln30.out; have := Ln46.out; have := En51.out; omega))
       clear ho0
       obtain ⟨Aq50, cq50, ea⟩ := Kd.S_slice Hq50.out
       subst ea
       have Ln51 := Aside0.mk (show n47 ≤ n51 ∧ n51 ≤ n52 by have := HZ.out; have := hb.size; have := En51.out; have := En52.out; omega)
       have n1 := Kd.S_below Hq11.out hb
       have n2 := Kd.S_below Hq16f0.out hb
       have n3 := Kd.S_below Hq23.out hb
       have n4 := Kd.S_below Hq45f0.out hb
       have n5 := blk_below BK2.out hb
       have n6 := blk_below BK7.out hb
       have n7 := below_step HB.out hb
       have n8 := Nat.le_trans HZ.out hb.size
       clear Hq11 Hq16f0 Hq23 Hq45f0 BK2 BK7 HB HZ
       have Hq11 := Aside0.mk n1
       have Hq16f0 := Aside0.mk n2
       have Hq23 := Aside0.mk n3
       have Hq45f0 := Aside0.mk n4
       have BK2 := Aside0.mk n5
       have BK7 := Aside0.mk n6
       have HB := Aside0.mk n7
       have HZ := Aside0.mk n8
       clear n1 n2 n3 n4 n5 n6 n7 n8
       replace HZ := Aside0.mk (show n52 ≤ w48.heap.size by have := En52.out; omega)
       clear hb)
    | ((with_reducible refine gate_callee (f := 34) rfl ?_)
       refine goesL_ (some 67) rfl rfl Try.func34 (by kernel_rfl) rfl #[.slice Aq50 r.length cq50, .slice Aq11 r.length cq11] rfl (by (try simp only [List.map_toArray, List.map_cons, List.map_nil]); first | done | rfl) ?_
       have hh := p6
       obtain ⟨kq54, eq54⟩ := hh
       (with_reducible refine (laws_eqValueS.calls kq54 _ _ (r) _ _ (r) true _ (Kd.S_reads' Hq50.out).2.2 (Kd.S_reads' Hq50.out).2.1 (Kd.S_reads' Hq11.out).2.2 (Kd.S_reads' Hq11.out).2.1 eq54).mono ?_)
       rintro e w53 ⟨rfl, hb⟩
       refine ⟨_, rfl, ?_⟩
       have n1 := Kd.S_below Hq11.out hb
       have n2 := Kd.S_below Hq16f0.out hb
       have n3 := Kd.S_below Hq23.out hb
       have n4 := Kd.S_below Hq50.out hb
       have n5 := blk_below BK2.out hb
       have n6 := blk_below BK7.out hb
       have n7 := below_step HB.out hb
       have n8 := Nat.le_trans HZ.out hb.size
       clear Hq11 Hq16f0 Hq23 Hq50 BK2 BK7 HB HZ
       have Hq11 := Aside0.mk n1
       have Hq16f0 := Aside0.mk n2
       have Hq23 := Aside0.mk n3
       have Hq50 := Aside0.mk n4
       have BK2 := Aside0.mk n5
       have BK7 := Aside0.mk n6
       have HB := Aside0.mk n7
       have HZ := Aside0.mk n8
       clear n1 n2 n3 n4 n5 n6 n7 n8
       clear hb)
    | ((with_reducible refine gate_callee (f := 36) rfl ?_)
       refine goesL_ (some 71) rfl rfl Try.func36 (by kernel_rfl) rfl #[.slice Aq23 r.length cq23, .int .i64 1] rfl (by (try simp only [List.map_toArray, List.map_cons, List.map_nil]); first | done | rfl) ?_
       have hh := p16
       obtain ⟨kq56, eq56⟩ := hh
       refine calls_of_args (args' := #[.slice Aq23 (mkValueS r (1)).length cq23, .int .i64 1]) (by simp only [mtS_length, mkValueS_length]) ?_
       (with_reducible refine (laws_heldValueS.calls kq56 _ _ (mkValueS r (1)) 1 m1 _ (by first | exact (Kd.S_reads' Hq23.out).2.2 | (rw [mkValueS_length]; exact (Kd.S_reads' Hq23.out).2.2)) (by first | exact (Kd.S_reads' Hq23.out).2.1 | (rw [mkValueS_length]; exact (Kd.S_reads' Hq23.out).2.1)) eq56).mono ?_)
       rintro e w55 ⟨rfl, hb⟩
       refine ⟨_, rfl, ?_⟩
       have n1 := Kd.S_below Hq16f0.out hb
       have n2 := Kd.S_below Hq23.out hb
       have n3 := blk_below BK2.out hb
       have n4 := blk_below BK7.out hb
       have n5 := below_step HB.out hb
       have n6 := Nat.le_trans HZ.out hb.size
       clear Hq16f0 Hq23 BK2 BK7 HB HZ
       have Hq16f0 := Aside0.mk n1
       have Hq23 := Aside0.mk n2
       have BK2 := Aside0.mk n3
       have BK7 := Aside0.mk n4
       have HB := Aside0.mk n5
       have HZ := Aside0.mk n6
       clear n1 n2 n3 n4 n5 n6
       clear hb))
  go_ret
  exact ⟨rfl, HB.out⟩
set_option maxHeartbeats 8000000 in
set_option maxRecDepth 100000 in
theorem FnExactRowsOf_stop1 (x0 : S57) (x1 : ByteArray) (y0 : S50) (r : List S70)
    (p0 : decide ((x1.size : Int) > 1048576) = true)
    (W : World) {A0f0 : Option Addr} {c0f0 : Nat} (hHA0f0 : Kd.C k142 W A0f0 x0.f0.length x0.f0) (kHA0f0 : x0.f0.length ≤ c0f0) :
    Calls Try.prog 6 #[.agg #[.slice A0f0 x0.f0.length c0f0], .string x1] W fun e w' => e = .returned (.bool true) ∧ Below W.heap.size W w' := by
  have HA0f0 := Aside0.mk hHA0f0
  clear hHA0f0
  have HB := Aside0.mk (Below.refl W.heap.size W)
  have HZ := Aside0.mk (Nat.le_refl W.heap.size)
  have HZ0 := Aside0.mk (Nat.le_refl W.heap.size)
  go_enter Try.func6, Try.ntmps6
  go_wp2_with (first
    | ((with_reducible refine gate_dst (N := 2) rfl ?_)
       refine box_event ?hg (N := 2) ?hd (cs := #[.slice A0f0 x0.f0.length c0f0]) (t := 57) ?hr ?_; (case hd => rfl); (case hg => rfl); (case hr => first | (go_simp; done) | (go_simp; rfl))
       intro gb2 hg w1 hbox hb
       have Lgb2 := Aside0.mk (show W.heap.size ≤ gb2 by rw [hg]; exact HZ.out)
       have n1 := below_step HB.out hb
       have n2 := Nat.le_trans HZ.out hb.size
       clear HB HZ
       have HB := Aside0.mk n1
       have HZ := Aside0.mk n2
       clear n1 n2
       have BK2 := Aside0.mk hbox
       replace HZ := Aside0.mk (show gb2 + 1 ≤ w1.heap.size from blk_lt hbox)
       clear hbox hb hg
       have hx2_0 : w1.cell? ⟨gb2, 0, none⟩ = some (.slice A0f0 x0.f0.length c0f0) := (blk_cell BK2.out 0).trans rfl))
  go_ret
  exact ⟨rfl, HB.out⟩
set_option maxHeartbeats 8000000 in
set_option maxRecDepth 100000 in
theorem FnExactRowsOf_stop2 (x0 : S57) (x1 : ByteArray) (y0 : S50) (r : List S70) (left0 : Int)
    (p0 : decide ((x1.size : Int) > 1048576) = false)
    (p1 : ∃ k, laws_szDB.f k (x0.f0) 1048576 = some left0)
    (p2 : decide (left0 < 0) = true)
    (W : World) {A0f0 : Option Addr} {c0f0 : Nat} (hHA0f0 : Kd.C k142 W A0f0 x0.f0.length x0.f0) (kHA0f0 : x0.f0.length ≤ c0f0) :
    Calls Try.prog 6 #[.agg #[.slice A0f0 x0.f0.length c0f0], .string x1] W fun e w' => e = .returned (.bool true) ∧ Below W.heap.size W w' := by
  have HA0f0 := Aside0.mk hHA0f0
  clear hHA0f0
  have HB := Aside0.mk (Below.refl W.heap.size W)
  have HZ := Aside0.mk (Nat.le_refl W.heap.size)
  have HZ0 := Aside0.mk (Nat.le_refl W.heap.size)
  go_enter Try.func6, Try.ntmps6
  go_wp2_with (first
    | ((with_reducible refine gate_dst (N := 2) rfl ?_)
       refine box_event ?hg (N := 2) ?hd (cs := #[.slice A0f0 x0.f0.length c0f0]) (t := 57) ?hr ?_; (case hd => rfl); (case hg => rfl); (case hr => first | (go_simp; done) | (go_simp; rfl))
       intro gb2 hg w1 hbox hb
       have Lgb2 := Aside0.mk (show W.heap.size ≤ gb2 by rw [hg]; exact HZ.out)
       have n1 := below_step HB.out hb
       have n2 := Nat.le_trans HZ.out hb.size
       clear HB HZ
       have HB := Aside0.mk n1
       have HZ := Aside0.mk n2
       clear n1 n2
       have BK2 := Aside0.mk hbox
       replace HZ := Aside0.mk (show gb2 + 1 ≤ w1.heap.size from blk_lt hbox)
       clear hbox hb hg
       have hx2_0 : w1.cell? ⟨gb2, 0, none⟩ = some (.slice A0f0 x0.f0.length c0f0) := (blk_cell BK2.out 0).trans rfl)
    | ((with_reducible refine gate_callee (f := 30) rfl ?_)
       refine goesL_ (some 18) rfl rfl Try.func30 (by kernel_rfl) rfl #[.agg #[.slice A0f0 x0.f0.length c0f0], .int .i64 1048576] rfl (by (try simp only [List.map_toArray, List.map_cons, List.map_nil]); first | done | rfl) ?_
       have hh := p1
       obtain ⟨kq3, eq3⟩ := hh
       (with_reducible refine (laws_szDB.calls kq3 _ _ (x0.f0) 1048576 left0 _ (Kd.C_below HA0f0.out HB.out) kHA0f0 eq3).mono ?_)
       rintro e w2 ⟨rfl, hb⟩
       refine ⟨_, rfl, ?_⟩
       clear hx2_0
       have n1 := blk_below BK2.out hb
       have n2 := below_step HB.out hb
       have n3 := Nat.le_trans HZ.out hb.size
       clear BK2 HB HZ
       have BK2 := Aside0.mk n1
       have HB := Aside0.mk n2
       have HZ := Aside0.mk n3
       clear n1 n2 n3
       clear hb
       have hx2_0 : w2.cell? ⟨gb2, 0, none⟩ = some (.slice A0f0 x0.f0.length c0f0) := (blk_cell BK2.out 0).trans rfl))
  go_ret
  exact ⟨rfl, HB.out⟩
end Go.Proofs.Ytcgdaeaaimkhdaa.Py
end
section
namespace Go.Proofs.Ytcgdaeaaimkhdaa.Py
open Go.RowKit Go.Proofs.YtcgdaeaaimkhdaaW.PrintWords Go.Proofs.YtcgdaeaaimkhdaaW.PrintLast Go.Proofs.Ytcgdaeaaimkhdaa.Pl Go.Proofs.Ytcgdaeaaimkhdaa.Ext
set_option linter.unusedVariables false
set_option linter.unusedSimpArgs false
theorem FnExactRowsOf_told (x0 : S57) (hW0 : W57 x0) (x1 : ByteArray) (W : World) {A0 : Option Addr} {c0 : Nat} (g0 : Kd.C k142 W A0 x0.f0.length x0.f0) (k0 : x0.f0.length ≤ c0) :
    Calls Try.prog 6 #[.agg #[.slice A0 x0.f0.length c0], .string x1] W fun e w' => e = .returned (.bool true) ∧ Below W.heap.size W w' := by
  by_cases h1 : (x1.size : Int) > 1048576
  · exact FnExactRowsOf_stop1 x0 x1 (cvDB x0) [] (decide_eq_true h1) W g0 k0
  have hs := szDB_ev x0 hW0 1048576 (by omega) (by omega)
  by_cases hc : cut (wtDB x0) 1048576 < 0
  · exact FnExactRowsOf_stop2 x0 x1 (cvDB x0) [] _ (decide_eq_false h1) hs.rounds (decide_eq_true hc) W g0 k0
  have hw : wtDB x0 ≤ 1048576 := by
    have := (not_congr (cut_neg (n := wtDB x0) (left := 1048576))).1 hc
    omega
  have sm := smDB_of x0 hW0 hw
  have hw2 := hw
  rw [wtDB_eq] at hw2
  have c0 := cnTableDataS_cv x0.f0
  have e2 : (cvDB x0).f0 = cvTableDataS x0.f0 := by rw [cvDB_eq]
  obtain ⟨r, h2, h3, h4⟩ := RowsOf_same (cvDB x0).f0 sm.p0.1 sm.p0.2 x1
  have hr : r.length ≤ 1048576 ∧ (∀ y ∈ r, SmValue y) ∧ cnValueS r ≤ cnTableDataS (cvDB x0).f0 := by
    rcases h4 with rfl | ⟨y, hy, rfl⟩
    · exact ⟨by simp, by simp, by simp [cnValueS]⟩
    · have hp := (sm.p0.2 y hy).p1
      have h5 := cnTableData_mem hy
      rw [cnTableData_eq] at h5
      exact ⟨hp.1, hp.2, by omega⟩
  obtain ⟨r1, r2, r3⟩ := hr
  rw [e2] at r3
  have ln := fun y hy => lnValue_of y (r2 y hy)
  refine FnExactRowsOf_walk x0 x1 (cvDB x0) r _ _ _ (decide_eq_false h1) hs.rounds (decide_eq_false hc) (toDB_ev x0 hw).rounds h2.rounds h3.rounds (eqValueS_of r r1 (fun y hy => eqValue_ev y (r2 y hy))).rounds (eqDB_ev _ sm).rounds
    (marksTableDataS _ sm.p0.1 (fun y hy => lnTableData_of2 y (sm.p0.2 y hy))) (by rw [e2]; omega) rfl (decide_eq_false (by omega)) (marksValueS _ r1 ln) (by omega) rfl (decide_eq_false (by omega)) (Ev.rounds ?_) W g0 k0
  exact heldValueS_ev _ r1 ln 1 (by omega) (by omega)

end Go.Proofs.Ytcgdaeaaimkhdaa.Py
end
section
namespace Go.Proofs.Ytcgdaeaaimkhdaa.Rd
open Go.RowKit Go.Proofs.YtcgdaeaaimkhdaaW.PrintWords
set_option linter.unusedVariables false
/-- What reads as_ data of type t, by at most n steps, is of kind d and meets q. -/
def Op (P : Program) (n : Nat) (t : TypeId) {α : Type} (d : Kd α) (q : α → Prop) : Prop :=
  ∀ (H : Type) (enc : TypeId × Value → H) (w : World) (base : Nat) (spare : Nat → Bool) (held : Bool) (fuel : Nat) (cs : List Value) (x : DataW H × List MemPlace),
    fuel ≤ n → DataW.trod enc P w base spare held fuel t cs = some x → ∃ y, d.K w y cs ∧ q y
theorem Op.imp {P : Program} {n : Nat} {t : TypeId} {α : Type} {d d' : Kd α} {q q' : α → Prop} (h1 : ∀ w y cs, d.K w y cs → d'.K w y cs) (h2 : ∀ y, q y → q' y) (h : Op P n t d q) : Op P n t d' q' := by
  intro H enc w base spare held fuel cs x hf hx
  obtain ⟨y, hy, hq⟩ := h H enc w base spare held fuel cs x hf hx
  exact ⟨y, h1 _ _ _ hy, h2 _ hq⟩
theorem Op.iso {P : Program} {n : Nat} {t : TypeId} {α β : Type} {d : Kd α} {q : α → Prop} {f : β → α} (g : α → β) (hg : ∀ y, f (g y) = y) (h : Op P n t d q) : Op P n t (Kd.iso d f) (fun x => q (f x)) := by
  intro H enc w base spare held fuel cs x hf hx
  obtain ⟨y, hy, hq⟩ := h H enc w base spare held fuel cs x hf hx
  refine ⟨g y, ?_, ?_⟩
  · show d.K w (f (g y)) cs
    rw [hg]; exact hy
  · show q (f (g y))
    rw [hg]; exact hq
theorem Op.int {P : Program} {n : Nat} {t : TypeId} {k : IntKind} (ht : P.underlying t = some (.int k)) : Op P n t (Kd.int k) (fun x => (Lit.int k x).wf = true) := by
  intro H enc w base spare held fuel cs x hf hx
  obtain ⟨m, rfl, rfl, hw⟩ := DataW.trod_int ht hx
  exact ⟨m, rfl, hw⟩
theorem Op.bool {P : Program} {n : Nat} {t : TypeId} (ht : P.underlying t = some .bool) : Op P n t Kd.bool (fun _ => True) := by
  intro H enc w base spare held fuel cs x hf hx
  obtain ⟨m, rfl, rfl⟩ := DataW.trod_bool ht hx
  exact ⟨m, rfl, trivial⟩
theorem trod_string' {H : Type} {enc : TypeId × Value → H} {P : Program} {w : World} {base : Nat} {spare : Nat → Bool} {held : Bool} {fuel : Nat} {t : TypeId} {cs : List Value} {x : DataW H × List MemPlace}
    (ht : P.underlying t = some .string) (h : DataW.trod enc P w base spare held fuel t cs = some x) : ∃ s, cs = [.string s] ∧ s.size ≤ maxLen := by
  cases fuel with
  | zero => simp [DataW.trod] at h
  | succ n =>
    unfold DataW.trod at h
    rw [ht] at h
    split at h <;> simp_all
theorem Op.string {P : Program} {n : Nat} {t : TypeId} (ht : P.underlying t = some .string) : Op P n t Kd.string (fun s => s.size ≤ maxLen) := by
  intro H enc w base spare held fuel cs x hf hx
  obtain ⟨m, rfl, hm⟩ := trod_string' ht hx
  exact ⟨m, rfl, hm⟩
theorem add_add (a : Addr) (i j : Nat) : (a.add i).add j = a.add (i + j) := by
  unfold Addr.add
  by_cases h1 : i = 0 <;> by_cases h2 : j = 0 <;> simp [h1, h2, Nat.add_assoc]
theorem choose_list {α : Type} {p : Nat → α → Prop} (n : Nat) (h : ∀ i, i < n → ∃ y, p i y) : ∃ ys : List α, ys.length = n ∧ ∀ i y, ys[i]? = some y → p i y := by
  induction n with
  | zero => exact ⟨[], rfl, fun i y hy => by simp at hy⟩
  | succ n ih =>
    obtain ⟨ys, hl, hy⟩ := ih (fun i hi => h i (by omega))
    obtain ⟨z, hz⟩ := h n (by omega)
    refine ⟨ys ++ [z], by simp [hl], fun i y hi => ?_⟩
    by_cases hlt : i < n
    · rw [List.getElem?_append_left (by omega)] at hi
      exact hy i y hi
    · by_cases he : i = n
      · subst he
        rw [List.getElem?_append_right (by omega)] at hi
        simp [hl] at hi
        subst hi
        exact hz
      · rw [List.getElem?_eq_none (by simp; omega)] at hi
        cases hi
theorem Op.slice {P : Program} {n : Nat} {t e : TypeId} {α : Type} {d : Kd α} {q : α → Prop} (ht : P.underlying t = some (.slice e)) (hsz : P.cellsOf e = d.sz) (h : ∀ k, k < n → Op P k e d q) :
    Op P n t (Kd.slice e d) (fun xs => xs.length ≤ maxLen ∧ ∀ y ∈ xs, q y) := by
  intro H enc w base spare held fuel cs x hf hx
  rcases DataW.trod_slice ht hx with ⟨rfl, _⟩ | ⟨a, len, cap, elems, rest, m, hm, rfl, _, hb, hl, hc, hlen, hel, _, _⟩
  · exact ⟨[], ⟨none, 0, rfl, Nat.le_refl _, ⟨rfl, by simp, fun hp => absurd hp (by simp)⟩⟩, by simp, fun y hy => by simp at hy⟩
  · have hone : ∀ i, i < len → ∃ y, (∃ c, c.length = d.sz ∧ d.K w y c ∧ ∀ j u, c[j]? = some u → w.cell? (a.add (i * d.sz + j)) = some u) ∧ q y := by
      intro i hi
      have h1 := hel i hi
      rw [List.getElem?_eq_getElem (by omega)] at h1
      obtain ⟨c, hc1, hc2⟩ := Option.bind_eq_some_iff.1 h1
      obtain ⟨y, hy, hq⟩ := h m (by omega) H enc w base spare held m c _ (Nat.le_refl _) hc2
      obtain ⟨_, hcl, hcells⟩ := World.cells?_some hc1
      refine ⟨y, ⟨c, by omega, hy, fun j u hu => ?_⟩, hq⟩
      have hj : j < P.cellsOf e := by
        rw [← hcl]
        exact (List.getElem?_eq_some_iff.1 hu).1
      have := hcells j hj
      rw [add_add, hsz] at this
      rw [this, hu]
    obtain ⟨ys, hyl, hys⟩ := choose_list len hone
    have hmx : len ≤ 9223372036854775807 := by
      have : cap ≤ 9223372036854775807 := hc
      omega
    refine ⟨ys, ⟨some a, cap, by rw [hyl], by omega, ⟨rfl, by omega, fun _ => ⟨a, rfl, fun j p hj => (hys j p hj).1⟩⟩⟩, by rw [hyl]; exact hmx, fun y hy => ?_⟩
    obtain ⟨i, hi, rfl⟩ := List.getElem_of_mem hy
    exact (hys i _ (List.getElem?_eq_getElem hi)).2
/-- Fields, from an offset on. -/
def OpF (P : Program) (n : Nat) (fs : List Field) (off : Nat) {α : Type} (d : Kd α) (q : α → Prop) : Prop :=
  ∀ (H : Type) (enc : TypeId × Value → H) (w : World) (base : Nat) (spare : Nat → Bool) (held : Bool) (fuel : Nat) (cs : List Value), fuel ≤ n →
    (∀ f ∈ fs, ∃ x, DataW.trod enc P w base spare held fuel f.type ((cs.drop f.offset).take (P.cellsOf f.type)) = some x) → cs.length = off + d.sz → ∃ y, d.K w y (cs.drop off) ∧ q y
theorem OpF.one {P : Program} {n : Nat} {f : Field} {off : Nat} {α : Type} {d : Kd α} {q : α → Prop} (ho : f.offset = off) (hsz : P.cellsOf f.type = d.sz) (h : Op P n f.type d q) : OpF P n [f] off d q := by
  intro H enc w base spare held fuel cs hf hx hl
  obtain ⟨x, hx⟩ := hx f (List.mem_singleton.2 rfl)
  rw [ho, hsz, List.take_of_length_le (by rw [List.length_drop]; omega)] at hx
  exact h H enc w base spare held fuel _ x hf hx
theorem OpF.cons {P : Program} {n : Nat} {f : Field} {fs : List Field} {off : Nat} {α β : Type} {a : Kd α} {b : Kd β} {qa : α → Prop} {qb : β → Prop} (ho : f.offset = off) (hsz : P.cellsOf f.type = a.sz) (h : Op P n f.type a qa) (hr : OpF P n fs (off + a.sz) b qb) :
    OpF P n (f :: fs) off (Kd.pair a b) (fun y => qa y.1 ∧ qb y.2) := by
  intro H enc w base spare held fuel cs hf hx hl
  have hl' : cs.length = off + (a.sz + b.sz) := hl
  obtain ⟨x, h1⟩ := hx f (List.mem_cons_self ..)
  rw [ho, hsz] at h1
  obtain ⟨y, hy, hq⟩ := h H enc w base spare held fuel _ x hf h1
  obtain ⟨z, hz, hq2⟩ := hr H enc w base spare held fuel cs hf (fun g hg => hx g (List.mem_cons_of_mem _ hg)) (by omega)
  refine ⟨(y, z), ⟨_, _, ?_, hy, hz⟩, hq, hq2⟩
  rw [← List.drop_drop, List.take_append_drop]
theorem Op.struct {P : Program} {n : Nat} {t : TypeId} {fs : Array Field} {α : Type} {d : Kd α} {q : α → Prop} (ht : P.underlying t = some (.struct fs)) (hsz : P.cellsOf t = d.sz) (h : ∀ k, k < n → OpF P k fs.toList 0 d q) : Op P n t d q := by
  intro H enc w base spare held fuel cs x hf hx
  obtain ⟨xs, m, hm, _, hl, hxl, hfs⟩ := DataW.trod_struct ht hx
  have hr := h m (by omega) H enc w base spare held m cs (Nat.le_refl _) (fun f hfm => ?_) (by omega)
  · simpa using hr
  · obtain ⟨i, hi, rfl⟩ := List.getElem_of_mem hfm
    have hi' : i < fs.size := by simpa using hi
    have h2 := hfs i _ (Array.getElem?_eq_getElem hi')
    rw [List.getElem?_eq_getElem (by omega)] at h2
    exact ⟨_, by simpa using h2⟩
/-- The same at whatever fuel. -/
theorem Op.open_ {P : Program} {t : TypeId} {α : Type} {d : Kd α} {q : α → Prop} (h : ∀ n, Op P n t d q) {H : Type} {enc : TypeId × Value → H} {w : World} {base : Nat} {spare : Nat → Bool} {held : Bool} {v : Value} {x : DataW H} {ps : List MemPlace}
    (ht : DataW.Trod enc P w base spare held t v x ps) : ∃ y, d.K w y v.cells.toList ∧ q y := by
  obtain ⟨fuel, hf⟩ := ht
  exact h fuel H enc w base spare held fuel _ _ (Nat.le_refl _) hf
end Go.Proofs.Ytcgdaeaaimkhdaa.Rd
end
section
namespace Go.Proofs.Ytcgdaeaaimkhdaa.Py
open Go.RowKit Go.Proofs.Ytcgdaeaaimkhdaa.Ext Go.Proofs.YtcgdaeaaimkhdaaW.PrintWords Go.Proofs.YtcgdaeaaimkhdaaW.PrintLast Go.Proofs.YtcgdaeaaimkhdaaW.PrintMore Go.Proofs.Ytcgdaeaaimkhdaa
set_option linter.unusedVariables false
set_option linter.unusedSimpArgs false

theorem fold67 : ∀ (w : World) (x : S67) (cs : List Value), (F67 k67).K w x cs → k67.K w x cs := by
  intro w x cs h
  obtain ⟨_, _, rfl, rfl, ⟨_, _, rfl, rfl, ⟨_, _, rfl, ⟨A2, c2, rfl, l2, g2⟩, ⟨A3, c3, rfl, l3, g3⟩⟩⟩⟩ := h
  exact k67_mk w x l2 g2 l3 g3
theorem op67 : ∀ n, Rd.Op Try.prog n 67 k67 W67 := by
  intro n
  induction n using Nat.strongRecOn with
  | _ n ih =>
  exact Rd.Op.imp (d := F67 k67) fold67 (fun x h => W67.mk h.1 h.2.1 h.2.2.1 h.2.2.2.1 h.2.2.2.2) (Rd.Op.iso (g := fun p => ⟨p.1, p.2.1, p.2.2.1, p.2.2.2⟩) (fun _ => rfl) (Rd.Op.struct Try.underlying67 (by kernel_rfl) (fun j0 hj0 => (Rd.OpF.cons rfl (by kernel_rfl) (Rd.Op.int Try.underlying3) (Rd.OpF.cons rfl (by kernel_rfl) (Rd.Op.int Try.underlying3) (Rd.OpF.cons rfl (by kernel_rfl) (Rd.Op.slice Try.underlying22 (by kernel_rfl) (fun j1 hj1 => (Rd.Op.string Try.underlying9))) (Rd.OpF.one rfl (by kernel_rfl) (Rd.Op.slice Try.underlying65 (by kernel_rfl) (fun j1 hj1 => ih j1 (by omega))))))))))
theorem op142 : ∀ n, Rd.Op Try.prog n 142 k142 W142 := by
  intro n
  exact Rd.Op.imp (d := k142) (fun _ _ _ h => h) (fun x h => h) (Rd.Op.iso (g := fun p => ⟨p.1, p.2⟩) (fun _ => rfl) (Rd.Op.struct Try.underlying142 (by kernel_rfl) (fun j0 hj0 => (Rd.OpF.cons rfl (by kernel_rfl) (Rd.Op.string Try.underlying9) (Rd.OpF.one rfl (by kernel_rfl) (Rd.Op.slice Try.underlying65 (by kernel_rfl) (fun j1 hj1 => (op67 _))))))))
theorem op57 : ∀ n, Rd.Op Try.prog n 57 k57 W57 := by
  intro n
  exact Rd.Op.imp (d := k57) (fun _ _ _ h => h) (fun x h => h) (Rd.Op.iso (g := fun p => ⟨p⟩) (fun _ => rfl) (Rd.Op.struct Try.underlying57 (by kernel_rfl) (fun j0 hj0 => (Rd.OpF.one rfl (by kernel_rfl) (Rd.Op.slice Try.underlying55 (by kernel_rfl) (fun j1 hj1 => (op142 _)))))))
end Go.Proofs.Ytcgdaeaaimkhdaa.Py
end
