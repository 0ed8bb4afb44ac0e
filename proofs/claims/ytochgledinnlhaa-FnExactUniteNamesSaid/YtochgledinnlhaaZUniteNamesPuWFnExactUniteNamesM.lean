/- The walk of the law FnExactUniteNames: what it does, by what its functions come to. -/
import Derived.Test.YtochgledinnlhaaZUniteNamesPu1M
import Derived.Test.YtochgledinnlhaaZUniteNamesPuMarkSM
import Derived.Test.YtochgledinnlhaaZUniteNamesWLastM
import Derived.Test.YtochgledinnlhaaZUniteNamesWWords
import Derived.Deep.Slices
import Derived.ChangeArms
import Derived.DataReads
section
namespace Go.Proofs.Ytochgledinnlhaa.Pu
open Go.RowKit Go.Proofs.YtochgledinnlhaaW.PrintWords Go.Proofs.YtochgledinnlhaaW.PrintLast Go.Proofs.YtochgledinnlhaaW.PrintMore Go.Proofs.Ytochgledinnlhaa.Pl Go.Proofs.Ytochgledinnlhaa.Ext
set_option linter.unusedVariables false
set_option linter.unusedSimpArgs false
set_option maxHeartbeats 8000000 in
set_option maxRecDepth 100000 in
theorem FnExactUniteNames_walk (x0 : List ByteArray) (x1 : List ByteArray) (y0 : List ByteArray) (y1 : List ByteArray) (r : List ByteArray) (left0 : Int) (left1 : Int) (m0 : Int) (m1 : Int) (m2 : Int)
    (p0 : ∃ k, laws_szStringS.f k (x0) 1048576 = some left0)
    (p1 : decide (left0 < 0) = false)
    (p2 : ∃ k, laws_szStringS.f k (x1) left0 = some left1)
    (p3 : decide (left1 < 0) = false)
    (p4 : ∃ k, laws_toStringS.f k (x0) = some (y0))
    (p5 : ∃ k, laws_toStringS.f k (x1) = some (y1))
    (p6 : ∃ k, spec_UniteNames.f k (y0) (y1) = some (r))
    (p7 : ∃ k, impl_UniteNames.f k (y0) (y1) = some (r))
    (p8 : ∃ k, laws_eqStringS.f k (r) (r) = some true)
    (p9 : ∃ k, laws_eqStringS.f k (y0) (y0) = some true)
    (p10 : ∃ k, laws_eqStringS.f k (y1) (y1) = some true)
    (p11 : y0.length ≤ 1048576)
    (p12 : (1 + (y0.length : Nat) : Int) ≤ 4611686018427387000)
    (p13 : m0 = 1 + (y0.length : Nat))
    (p14 : decide (m0 < 0) = false)
    (p15 : y1.length ≤ 1048576)
    (p16 : (m0 + (y1.length : Nat) : Int) ≤ 4611686018427387000)
    (p17 : m1 = m0 + (y1.length : Nat))
    (p18 : decide (m1 < 0) = false)
    (p19 : r.length ≤ 1048576)
    (p20 : (1 + (r.length : Nat) : Int) ≤ 4611686018427387000)
    (p21 : m2 = 1 + (r.length : Nat))
    (p22 : decide (m2 < 0) = false)
    (p23 : ∃ k, laws_heldStringS.f k (mtS (1) r.length) 1 = some m2)
    (W : World) {A0 : Option Addr} {c0 : Nat} (hHA0 : Kd.C Kd.string W A0 x0.length x0) (kHA0 : x0.length ≤ c0) {A1 : Option Addr} {c1 : Nat} (hHA1 : Kd.C Kd.string W A1 x1.length x1) (kHA1 : x1.length ≤ c1) :
    Calls Try.prog 3 #[.slice A0 x0.length c0, .slice A1 x1.length c1] W fun e w' => e = .returned (.bool true) ∧ Below W.heap.size W w' := by
  have HA0 := Aside0.mk hHA0
  clear hHA0
  have HA1 := Aside0.mk hHA1
  clear hHA1
  have Hp13 := Aside0.mk p13
  clear p13
  have Hp17 := Aside0.mk p17
  clear p17
  have Hp21 := Aside0.mk p21
  clear p21
  have HB := Aside0.mk (Below.refl W.heap.size W)
  have HZ := Aside0.mk (Nat.le_refl W.heap.size)
  have HZ0 := Aside0.mk (Nat.le_refl W.heap.size)
  go_enter Try.func3, Try.ntmps3
  go_wp2_with (first
    | ((with_reducible refine gate_callee (f := 6) rfl ?_)
       refine goesL_ (some 16) rfl rfl Try.func6 (by kernel_rfl) rfl #[.slice A0 x0.length c0, .int .i64 1048576] rfl (by (try simp only [List.map_toArray, List.map_cons, List.map_nil]); first | done | rfl) ?_
       have hh := p0
       obtain ⟨kq2, eq2⟩ := hh
       (with_reducible refine (laws_szStringS.calls kq2 _ _ (x0) 1048576 left0 _ (Kd.C_below HA0.out HB.out) kHA0 eq2).mono ?_)
       rintro e w1 ⟨rfl, hb⟩
       (try replace hb := Drawn0.below hb)
       refine ⟨_, rfl, ?_⟩
       have n1 := below_step HB.out hb
       have n2 := Nat.le_trans HZ.out hb.size
       clear HB HZ
       have HB := Aside0.mk n1
       have HZ := Aside0.mk n2
       clear n1 n2
       clear hb)
    | ((with_reducible refine gate_callee (f := 6) rfl ?_)
       refine goesL_ (some 21) rfl rfl Try.func6 (by kernel_rfl) rfl #[.slice A1 x1.length c1, .int .i64 left0] rfl (by (try simp only [List.map_toArray, List.map_cons, List.map_nil]); first | done | rfl) ?_
       have hh := p2
       obtain ⟨kq4, eq4⟩ := hh
       (with_reducible refine (laws_szStringS.calls kq4 _ _ (x1) left0 left1 _ (Kd.C_below HA1.out HB.out) kHA1 eq4).mono ?_)
       rintro e w3 ⟨rfl, hb⟩
       (try replace hb := Drawn0.below hb)
       refine ⟨_, rfl, ?_⟩
       have n1 := below_step HB.out hb
       have n2 := Nat.le_trans HZ.out hb.size
       clear HB HZ
       have HB := Aside0.mk n1
       have HZ := Aside0.mk n2
       clear n1 n2
       clear hb)
    | ((with_reducible refine gate_callee (f := 8) rfl ?_)
       refine goesL_ (some 25) rfl rfl Try.func8 (by kernel_rfl) rfl #[.slice A0 x0.length c0] rfl (by (try simp only [List.map_toArray, List.map_cons, List.map_nil]); first | done | rfl) ?_
       have hh := p4
       obtain ⟨kq6, eq6⟩ := hh
       (with_reducible refine (laws_toStringS.calls kq6 _ _ (x0) y0 _ (Kd.C_below HA0.out HB.out) kHA0 eq6).mono ?_)
       rintro e w5 ⟨u0, rfl, ho0, hb⟩
       refine ⟨_, rfl, ?_⟩
       obtain ⟨n8, en8⟩ : ∃ n, n = w3.heap.size := ⟨_, rfl⟩
       obtain ⟨n9, en9⟩ : ∃ n, n = w5.heap.size := ⟨_, rfl⟩
       have En8 := Aside0.mk en8; have En9 := Aside0.mk en9
       clear en8 en9
       have Hq7 := Aside0.mk (Ow.R_iv (base := W.heap.size) ho0 En8.out En9.out (by have := HZ.out; have := En8.out; omega))
       clear ho0
       obtain ⟨Aq7, cq7, ea⟩ := Kd.R_slice Hq7.out
       subst ea
       have Ln8 := Aside0.mk (show W.heap.size ≤ n8 ∧ n8 ≤ n9 by have := HZ.out; have := hb.size; have := En8.out; have := En9.out; omega)
       have n1 := below_step HB.out hb
       have n2 := Nat.le_trans HZ.out hb.size
       clear HB HZ
       have HB := Aside0.mk n1
       have HZ := Aside0.mk n2
       clear n1 n2
       replace HZ := Aside0.mk (show n9 ≤ w5.heap.size by have := En9.out; omega)
       clear hb)
    | ((with_reducible refine gate_callee (f := 8) rfl ?_)
       refine goesL_ (some 27) rfl rfl Try.func8 (by kernel_rfl) rfl #[.slice A1 x1.length c1] rfl (by (try simp only [List.map_toArray, List.map_cons, List.map_nil]); first | done | rfl) ?_
       have hh := p5
       obtain ⟨kq11, eq11⟩ := hh
       (with_reducible refine (laws_toStringS.calls kq11 _ _ (x1) y1 _ (Kd.C_below HA1.out HB.out) kHA1 eq11).mono ?_)
       rintro e w10 ⟨u0, rfl, ho0, hb⟩
       refine ⟨_, rfl, ?_⟩
       obtain ⟨n13, en13⟩ : ∃ n, n = w5.heap.size := ⟨_, rfl⟩
       obtain ⟨n14, en14⟩ : ∃ n, n = w10.heap.size := ⟨_, rfl⟩
       have En13 := Aside0.mk en13; have En14 := Aside0.mk en14
       clear en13 en14
       have Hq12 := Aside0.mk (Ow.R_iv (base := W.heap.size) ho0 En13.out En14.out (by have := HZ.out; have := Ln8.out; have := En13.out; omega))
       clear ho0
       obtain ⟨Aq12, cq12, ea⟩ := Kd.R_slice Hq12.out
       subst ea
       have Ln13 := Aside0.mk (show n9 ≤ n13 ∧ n13 ≤ n14 by have := HZ.out; have := hb.size; have := En13.out; have := En14.out; omega)
       have n1 := Kd.R_below Hq7.out hb
       have n2 := below_step HB.out hb
       have n3 := Nat.le_trans HZ.out hb.size
       clear Hq7 HB HZ
       have Hq7 := Aside0.mk n1
       have HB := Aside0.mk n2
       have HZ := Aside0.mk n3
       clear n1 n2 n3
       replace HZ := Aside0.mk (show n14 ≤ w10.heap.size by have := En14.out; omega)
       clear hb)
    | ((with_reducible refine gate_callee (f := 7) rfl ?_)
       refine goesL_ (some 28) rfl rfl Try.func7 (by kernel_rfl) rfl #[.slice Aq7 y0.length cq7, .slice Aq12 y1.length cq12] rfl (by (try simp only [List.map_toArray, List.map_cons, List.map_nil]); first | done | rfl) ?_
       have hh := p6
       obtain ⟨kq16, eq16⟩ := hh
       (with_reducible refine (spec_UniteNames.calls kq16 _ _ (y0) _ _ (y1) r _ (Kd.R_reads' Hq7.out).2.2 (Kd.R_reads' Hq7.out).2.1 (Kd.R_reads' Hq12.out).2.2 (Kd.R_reads' Hq12.out).2.1 eq16).mono ?_)
       rintro e w15 ⟨u0, rfl, ho0, hb⟩
       refine ⟨_, rfl, ?_⟩
       obtain ⟨n18, en18⟩ : ∃ n, n = w10.heap.size := ⟨_, rfl⟩
       obtain ⟨n19, en19⟩ : ∃ n, n = w15.heap.size := ⟨_, rfl⟩
       have En18 := Aside0.mk en18; have En19 := Aside0.mk en19
       clear en18 en19
       have Hq17 := Aside0.mk (Ow.R_iv (base := W.heap.size) ho0 En18.out En19.out (by have := HZ.out; have := Ln8.out; have := Ln13.out; have := En18.out; omega))
       clear ho0
       obtain ⟨Aq17, cq17, ea⟩ := Kd.R_slice Hq17.out
       subst ea
       have Ln18 := Aside0.mk (show n14 ≤ n18 ∧ n18 ≤ n19 by have := HZ.out; have := hb.size; have := En18.out; have := En19.out; omega)
       have n1 := Kd.R_below Hq7.out hb
       have n2 := Kd.R_below Hq12.out hb
       have n3 := below_step HB.out hb
       have n4 := Nat.le_trans HZ.out hb.size
       clear Hq7 Hq12 HB HZ
       have Hq7 := Aside0.mk n1
       have Hq12 := Aside0.mk n2
       have HB := Aside0.mk n3
       have HZ := Aside0.mk n4
       clear n1 n2 n3 n4
       replace HZ := Aside0.mk (show n19 ≤ w15.heap.size by have := En19.out; omega)
       clear hb)
    | ((with_reducible refine gate_callee (f := 8) rfl ?_)
       refine goesL_ (some 30) rfl rfl Try.func8 (by kernel_rfl) rfl #[.slice A0 x0.length c0] rfl (by (try simp only [List.map_toArray, List.map_cons, List.map_nil]); first | done | rfl) ?_
       have hh := p4
       obtain ⟨kq21, eq21⟩ := hh
       (with_reducible refine (laws_toStringS.calls kq21 _ _ (x0) y0 _ (Kd.C_below HA0.out HB.out) kHA0 eq21).mono ?_)
       rintro e w20 ⟨u0, rfl, ho0, hb⟩
       refine ⟨_, rfl, ?_⟩
       obtain ⟨n23, en23⟩ : ∃ n, n = w15.heap.size := ⟨_, rfl⟩
       obtain ⟨n24, en24⟩ : ∃ n, n = w20.heap.size := ⟨_, rfl⟩
       have En23 := Aside0.mk en23; have En24 := Aside0.mk en24
       clear en23 en24
       have Hq22 := Aside0.mk (Ow.R_iv (base := W.heap.size) ho0 En23.out En24.out (by have := HZ.out; have := Ln8.out; have := Ln13.out; have := Ln18.out; have := En23.out; omega))
       clear ho0
       obtain ⟨Aq22, cq22, ea⟩ := Kd.R_slice Hq22.out
       subst ea
       have Ln23 := Aside0.mk (show n19 ≤ n23 ∧ n23 ≤ n24 by have := HZ.out; have := hb.size; have := En23.out; have := En24.out; omega)
       have n1 := Kd.R_below Hq17.out hb
       have n2 := below_step HB.out hb
       have n3 := Nat.le_trans HZ.out hb.size
       clear Hq17 HB HZ
       have Hq17 := Aside0.mk n1
       have HB := Aside0.mk n2
       have HZ := Aside0.mk n3
       clear n1 n2 n3
       replace HZ := Aside0.mk (show n24 ≤ w20.heap.size by have := En24.out; omega)
       clear hb)
    | ((with_reducible refine gate_callee (f := 8) rfl ?_)
       refine goesL_ (some 32) rfl rfl Try.func8 (by kernel_rfl) rfl #[.slice A1 x1.length c1] rfl (by (try simp only [List.map_toArray, List.map_cons, List.map_nil]); first | done | rfl) ?_
       have hh := p5
       obtain ⟨kq26, eq26⟩ := hh
       (with_reducible refine (laws_toStringS.calls kq26 _ _ (x1) y1 _ (Kd.C_below HA1.out HB.out) kHA1 eq26).mono ?_)
       rintro e w25 ⟨u0, rfl, ho0, hb⟩
       refine ⟨_, rfl, ?_⟩
       obtain ⟨n28, en28⟩ : ∃ n, n = w20.heap.size := ⟨_, rfl⟩
       obtain ⟨n29, en29⟩ : ∃ n, n = w25.heap.size := ⟨_, rfl⟩
       have En28 := Aside0.mk en28; have En29 := Aside0.mk en29
       clear en28 en29
       have Hq27 := Aside0.mk (Ow.R_iv (base := W.heap.size) ho0 En28.out En29.out (by have := HZ.out; have := Ln8.out; have := Ln13.out; have := Ln18.out; have := Ln23.out; have := En28.out; omega))
       clear ho0
       obtain ⟨Aq27, cq27, ea⟩ := Kd.R_slice Hq27.out
       subst ea
       have Ln28 := Aside0.mk (show n24 ≤ n28 ∧ n28 ≤ n29 by have := HZ.out; have := hb.size; have := En28.out; have := En29.out; omega)
       have n1 := Kd.R_below Hq17.out hb
       have n2 := Kd.R_below Hq22.out hb
       have n3 := below_step HB.out hb
       have n4 := Nat.le_trans HZ.out hb.size
       clear Hq17 Hq22 HB HZ
       have Hq17 := Aside0.mk n1
       have Hq22 := Aside0.mk n2
       have HB := Aside0.mk n3
       have HZ := Aside0.mk n4
       clear n1 n2 n3 n4
       replace HZ := Aside0.mk (show n29 ≤ w25.heap.size by have := En29.out; omega)
       clear hb)
    | ((with_reducible refine gate_callee (f := 9) rfl ?_)
       refine goesL_ (some 35) rfl rfl Try.func9 (by kernel_rfl) rfl #[.slice Aq22 y0.length cq22, .slice Aq27 y1.length cq27] rfl (by (try simp only [List.map_toArray, List.map_cons, List.map_nil]); first | done | rfl) ?_
       have hh := p7
       obtain ⟨kq31, eq31⟩ := hh
       (with_reducible refine (impl_UniteNames.calls kq31 _ _ (y0) _ _ (y1) r _ (Kd.R_reads' Hq22.out).2.2 (Kd.R_reads' Hq22.out).2.1 (Kd.R_reads' Hq27.out).2.2 (Kd.R_reads' Hq27.out).2.1 eq31).mono ?_)
       rintro e w30 ⟨u0, rfl, ho0, hb⟩
       refine ⟨_, rfl, ?_⟩
       obtain ⟨n33, en33⟩ : ∃ n, n = w25.heap.size := ⟨_, rfl⟩
       obtain ⟨n34, en34⟩ : ∃ n, n = w30.heap.size := ⟨_, rfl⟩
       have En33 := Aside0.mk en33; have En34 := Aside0.mk en34
       clear en33 en34
       have Hq32 := Aside0.mk (Ow.R_iv (base := W.heap.size) ho0 En33.out En34.out (by have := HZ.out; have := Ln8.out; have := Ln13.out; have := Ln18.out; have := Ln23.out; have := Ln28.out; have := En33.out; omega))
       clear ho0
       obtain ⟨Aq32, cq32, ea⟩ := Kd.R_slice Hq32.out
       subst ea
       have Ln33 := Aside0.mk (show n29 ≤ n33 ∧ n33 ≤ n34 by have := HZ.out; have := hb.size; have := En33.out; have := En34.out; omega)
       have n1 := Kd.R_below Hq17.out hb
       have n2 := Kd.R_below Hq22.out hb
       have n3 := Kd.R_below Hq27.out hb
       have n4 := below_step HB.out hb
       have n5 := Nat.le_trans HZ.out hb.size
       clear Hq17 Hq22 Hq27 HB HZ
       have Hq17 := Aside0.mk n1
       have Hq22 := Aside0.mk n2
       have Hq27 := Aside0.mk n3
       have HB := Aside0.mk n4
       have HZ := Aside0.mk n5
       clear n1 n2 n3 n4 n5
       replace HZ := Aside0.mk (show n34 ≤ w30.heap.size by have := En34.out; omega)
       clear hb)
    | ((with_reducible refine gate_callee (f := 10) rfl ?_)
       refine goesL_ (some 38) rfl rfl Try.func10 (by kernel_rfl) rfl #[.slice Aq32 r.length cq32, .slice Aq17 r.length cq17] rfl (by (try simp only [List.map_toArray, List.map_cons, List.map_nil]); first | done | rfl) ?_
       have hh := p8
       obtain ⟨kq36, eq36⟩ := hh
       (with_reducible refine (laws_eqStringS.calls kq36 _ _ (r) _ _ (r) true _ (Kd.R_reads' Hq32.out).2.2 (Kd.R_reads' Hq32.out).2.1 (Kd.R_reads' Hq17.out).2.2 (Kd.R_reads' Hq17.out).2.1 eq36).mono ?_)
       rintro e w35 ⟨rfl, hb⟩
       (try replace hb := Drawn0.below hb)
       refine ⟨_, rfl, ?_⟩
       have n1 := Kd.R_below Hq17.out hb
       have n2 := Kd.R_below Hq22.out hb
       have n3 := Kd.R_below Hq27.out hb
       have n4 := Kd.R_below Hq32.out hb
       have n5 := below_step HB.out hb
       have n6 := Nat.le_trans HZ.out hb.size
       clear Hq17 Hq22 Hq27 Hq32 HB HZ
       have Hq17 := Aside0.mk n1
       have Hq22 := Aside0.mk n2
       have Hq27 := Aside0.mk n3
       have Hq32 := Aside0.mk n4
       have HB := Aside0.mk n5
       have HZ := Aside0.mk n6
       clear n1 n2 n3 n4 n5 n6
       clear hb)
    | ((with_reducible refine gate_callee (f := 8) rfl ?_)
       refine goesL_ (some 42) rfl rfl Try.func8 (by kernel_rfl) rfl #[.slice A0 x0.length c0] rfl (by (try simp only [List.map_toArray, List.map_cons, List.map_nil]); first | done | rfl) ?_
       have hh := p4
       obtain ⟨kq38, eq38⟩ := hh
       (with_reducible refine (laws_toStringS.calls kq38 _ _ (x0) y0 _ (Kd.C_below HA0.out HB.out) kHA0 eq38).mono ?_)
       rintro e w37 ⟨u0, rfl, ho0, hb⟩
       refine ⟨_, rfl, ?_⟩
       obtain ⟨n40, en40⟩ : ∃ n, n = w35.heap.size := ⟨_, rfl⟩
       obtain ⟨n41, en41⟩ : ∃ n, n = w37.heap.size := ⟨_, rfl⟩
       have En40 := Aside0.mk en40; have En41 := Aside0.mk en41
       clear en40 en41
       have Hq39 := Aside0.mk (Ow.R_iv (base := W.heap.size) ho0 En40.out En41.out (by have := HZ.out; have := Ln8.out; have := Ln13.out; have := Ln18.out; have := Ln23.out; have := Ln28.out; have := Ln33.out; have := En40.out; omega))
       clear ho0
       obtain ⟨Aq39, cq39, ea⟩ := Kd.R_slice Hq39.out
       subst ea
       have Ln40 := Aside0.mk (show n34 ≤ n40 ∧ n40 ≤ n41 by have := HZ.out; have := hb.size; have := En40.out; have := En41.out; omega)
       have n1 := Kd.R_below Hq17.out hb
       have n2 := Kd.R_below Hq22.out hb
       have n3 := Kd.R_below Hq27.out hb
       have n4 := Kd.R_below Hq32.out hb
       have n5 := below_step HB.out hb
       have n6 := Nat.le_trans HZ.out hb.size
       clear Hq17 Hq22 Hq27 Hq32 HB HZ
       have Hq17 := Aside0.mk n1
       have Hq22 := Aside0.mk n2
       have Hq27 := Aside0.mk n3
       have Hq32 := Aside0.mk n4
       have HB := Aside0.mk n5
       have HZ := Aside0.mk n6
       clear n1 n2 n3 n4 n5 n6
       replace HZ := Aside0.mk (show n41 ≤ w37.heap.size by have := En41.out; omega)
       clear hb)
    | ((with_reducible refine gate_callee (f := 10) rfl ?_)
       refine goesL_ (some 43) rfl rfl Try.func10 (by kernel_rfl) rfl #[.slice Aq22 y0.length cq22, .slice Aq39 y0.length cq39] rfl (by (try simp only [List.map_toArray, List.map_cons, List.map_nil]); first | done | rfl) ?_
       have hh := p9
       obtain ⟨kq43, eq43⟩ := hh
       (with_reducible refine (laws_eqStringS.calls kq43 _ _ (y0) _ _ (y0) true _ (Kd.R_reads' Hq22.out).2.2 (Kd.R_reads' Hq22.out).2.1 (Kd.R_reads' Hq39.out).2.2 (Kd.R_reads' Hq39.out).2.1 eq43).mono ?_)
       rintro e w42 ⟨rfl, hb⟩
       (try replace hb := Drawn0.below hb)
       refine ⟨_, rfl, ?_⟩
       have n1 := Kd.R_below Hq17.out hb
       have n2 := Kd.R_below Hq22.out hb
       have n3 := Kd.R_below Hq27.out hb
       have n4 := Kd.R_below Hq32.out hb
       have n5 := Kd.R_below Hq39.out hb
       have n6 := below_step HB.out hb
       have n7 := Nat.le_trans HZ.out hb.size
       clear Hq17 Hq22 Hq27 Hq32 Hq39 HB HZ
       have Hq17 := Aside0.mk n1
       have Hq22 := Aside0.mk n2
       have Hq27 := Aside0.mk n3
       have Hq32 := Aside0.mk n4
       have Hq39 := Aside0.mk n5
       have HB := Aside0.mk n6
       have HZ := Aside0.mk n7
       clear n1 n2 n3 n4 n5 n6 n7
       clear hb)
    | ((with_reducible refine gate_callee (f := 8) rfl ?_)
       refine goesL_ (some 47) rfl rfl Try.func8 (by kernel_rfl) rfl #[.slice A1 x1.length c1] rfl (by (try simp only [List.map_toArray, List.map_cons, List.map_nil]); first | done | rfl) ?_
       have hh := p5
       obtain ⟨kq45, eq45⟩ := hh
       (with_reducible refine (laws_toStringS.calls kq45 _ _ (x1) y1 _ (Kd.C_below HA1.out HB.out) kHA1 eq45).mono ?_)
       rintro e w44 ⟨u0, rfl, ho0, hb⟩
       refine ⟨_, rfl, ?_⟩
       obtain ⟨n47, en47⟩ : ∃ n, n = w42.heap.size := ⟨_, rfl⟩
       obtain ⟨n48, en48⟩ : ∃ n, n = w44.heap.size := ⟨_, rfl⟩
       have En47 := Aside0.mk en47; have En48 := Aside0.mk en48
       clear en47 en48
       have Hq46 := Aside0.mk (Ow.R_iv (base := W.heap.size) ho0 En47.out En48.out (by have := HZ.out; have := Ln8.out; have := Ln13.out; have := Ln18.out; have := Ln23.out; have := Ln28.out; have := Ln33.out; have := Ln40.out; have := En47.out; omega))
       clear ho0
       obtain ⟨Aq46, cq46, ea⟩ := Kd.R_slice Hq46.out
       subst ea
       have Ln47 := Aside0.mk (show n41 ≤ n47 ∧ n47 ≤ n48 by have := HZ.out; have := hb.size; have := En47.out; have := En48.out; omega)
       have n1 := Kd.R_below Hq17.out hb
       have n2 := Kd.R_below Hq22.out hb
       have n3 := Kd.R_below Hq27.out hb
       have n4 := Kd.R_below Hq32.out hb
       have n5 := below_step HB.out hb
       have n6 := Nat.le_trans HZ.out hb.size
       clear Hq17 Hq22 Hq27 Hq32 HB HZ
       have Hq17 := Aside0.mk n1
       have Hq22 := Aside0.mk n2
       have Hq27 := Aside0.mk n3
       have Hq32 := Aside0.mk n4
       have HB := Aside0.mk n5
       have HZ := Aside0.mk n6
       clear n1 n2 n3 n4 n5 n6
       replace HZ := Aside0.mk (show n48 ≤ w44.heap.size by have := En48.out; omega)
       clear hb)
    | ((with_reducible refine gate_callee (f := 10) rfl ?_)
       refine goesL_ (some 48) rfl rfl Try.func10 (by kernel_rfl) rfl #[.slice Aq27 y1.length cq27, .slice Aq46 y1.length cq46] rfl (by (try simp only [List.map_toArray, List.map_cons, List.map_nil]); first | done | rfl) ?_
       have hh := p10
       obtain ⟨kq50, eq50⟩ := hh
       (with_reducible refine (laws_eqStringS.calls kq50 _ _ (y1) _ _ (y1) true _ (Kd.R_reads' Hq27.out).2.2 (Kd.R_reads' Hq27.out).2.1 (Kd.R_reads' Hq46.out).2.2 (Kd.R_reads' Hq46.out).2.1 eq50).mono ?_)
       rintro e w49 ⟨rfl, hb⟩
       (try replace hb := Drawn0.below hb)
       refine ⟨_, rfl, ?_⟩
       have n1 := Kd.R_below Hq17.out hb
       have n2 := Kd.R_below Hq22.out hb
       have n3 := Kd.R_below Hq27.out hb
       have n4 := Kd.R_below Hq32.out hb
       have n5 := Kd.R_below Hq46.out hb
       have n6 := below_step HB.out hb
       have n7 := Nat.le_trans HZ.out hb.size
       clear Hq17 Hq22 Hq27 Hq32 Hq46 HB HZ
       have Hq17 := Aside0.mk n1
       have Hq22 := Aside0.mk n2
       have Hq27 := Aside0.mk n3
       have Hq32 := Aside0.mk n4
       have Hq46 := Aside0.mk n5
       have HB := Aside0.mk n6
       have HZ := Aside0.mk n7
       clear n1 n2 n3 n4 n5 n6 n7
       clear hb)
    | ((with_reducible refine gate_callee (f := 11) rfl ?_)
       refine goesL_ (some 52) rfl rfl Try.func11 (by kernel_rfl) rfl #[.slice Aq22 y0.length cq22, .int .i64 1] rfl (by (try simp only [List.map_toArray, List.map_cons, List.map_nil]); first | done | rfl) ?_
       (with_reducible refine (markStringS_own y0 p11 1 (by first | decide | (have := HZ.out; omega)) (Int.le_trans p12 (by decide)) _ (fun k => some k = (.slice Aq22 y0.length cq22 : Value).ownBlock ∧ True ∧ n23 ≤ k ∧ k < n24) W _ HB.out (Kd.R_mono (Kd.R_tight2 rfl Hq22.out) (fun k hk => hk))).mono ?_)
       rintro e w51 ⟨he, hr0, hb2, hk⟩
       obtain rfl : e = .returned (.int .i64 m0) := by rw [he, Hp13.out]
       clear he
       refine ⟨_, rfl, ?_⟩
       clear Hq22
       have n1 := Kd.R_kept Hq17.out hk (fun k hk h1 => by have := Ln8.out; have := Ln13.out; have := Ln18.out; have := Ln23.out; have := Ln28.out; have := Ln33.out; have := Ln40.out; have := Ln47.out; have := hk.2; have := h1.2; omega)
       have n2 := Kd.R_kept Hq27.out hk (fun k hk h1 => by have := Ln8.out; have := Ln13.out; have := Ln18.out; have := Ln23.out; have := Ln28.out; have := Ln33.out; have := Ln40.out; have := Ln47.out; have := hk.2; have := h1.2; omega)
       have n3 := Kd.R_kept Hq32.out hk (fun k hk h1 => by have := Ln8.out; have := Ln13.out; have := Ln18.out; have := Ln23.out; have := Ln28.out; have := Ln33.out; have := Ln40.out; have := Ln47.out; have := hk.2; have := h1.2; omega)
       have n4 := Nat.le_trans HZ.out hk.1
       clear Hq17 Hq27 Hq32 HZ
       have Hq17 := Aside0.mk n1
       have Hq27 := Aside0.mk n2
       have Hq32 := Aside0.mk n3
       have HZ := Aside0.mk n4
       clear n1 n2 n3 n4
       have n1 := hb2; clear HB; have HB := Aside0.mk n1; clear n1
       have Hq22 := Aside0.mk hr0
       clear hb2 hk hr0)
    | ((with_reducible refine gate_callee (f := 11) rfl ?_)
       refine goesL_ (some 55) rfl rfl Try.func11 (by kernel_rfl) rfl #[.slice Aq27 y1.length cq27, .int .i64 m0] rfl (by (try simp only [List.map_toArray, List.map_cons, List.map_nil]); first | done | rfl) ?_
       (with_reducible refine (markStringS_own y1 p15 m0 (by first | decide | (have := Hp13.out; omega)) (Int.le_trans p16 (by decide)) _ (fun k => some k = (.slice Aq27 y1.length cq27 : Value).ownBlock ∧ True ∧ n28 ≤ k ∧ k < n29) W _ HB.out (Kd.R_mono (Kd.R_tight2 rfl Hq27.out) (fun k hk => hk))).mono ?_)
       rintro e w53 ⟨he, hr0, hb2, hk⟩
       obtain rfl : e = .returned (.int .i64 m1) := by rw [he, Hp17.out]
       clear he
       refine ⟨_, rfl, ?_⟩
       clear Hq27
       have n1 := Kd.R_kept Hq17.out hk (fun k hk h1 => by have := Ln8.out; have := Ln13.out; have := Ln18.out; have := Ln23.out; have := Ln28.out; have := Ln33.out; have := Ln40.out; have := Ln47.out; have := hk.2; have := h1.2; omega)
       have n2 := Kd.R_kept Hq32.out hk (fun k hk h1 => by have := Ln8.out; have := Ln13.out; have := Ln18.out; have := Ln23.out; have := Ln28.out; have := Ln33.out; have := Ln40.out; have := Ln47.out; have := hk.2; have := h1.2; omega)
       have n3 := Nat.le_trans HZ.out hk.1
       clear Hq17 Hq32 HZ
       have Hq17 := Aside0.mk n1
       have Hq32 := Aside0.mk n2
       have HZ := Aside0.mk n3
       clear n1 n2 n3
       have n1 := hb2; clear HB; have HB := Aside0.mk n1; clear n1
       have Hq27 := Aside0.mk hr0
       clear hb2 hk hr0)
    | (go_at_call 10
       have hh := p8
       obtain ⟨kq56, eq56⟩ := hh
       (with_reducible refine (laws_eqStringS.calls kq56 _ _ (r) _ _ (r) true _ (Kd.R_reads' Hq32.out).2.2 (Kd.R_reads' Hq32.out).2.1 (Kd.R_reads' Hq17.out).2.2 (Kd.R_reads' Hq17.out).2.1 eq56).mono ?_)
       rintro e w55 ⟨rfl, hb⟩
       (try replace hb := Drawn0.below hb)
       have n1 := Kd.R_below Hq17.out hb
       have n2 := Kd.R_below Hq32.out hb
       have n3 := below_step HB.out hb
       have n4 := Nat.le_trans HZ.out hb.size
       clear Hq17 Hq32 HB HZ
       have Hq17 := Aside0.mk n1
       have Hq32 := Aside0.mk n2
       have HB := Aside0.mk n3
       have HZ := Aside0.mk n4
       clear n1 n2 n3 n4
       clear hb)
    | ((with_reducible refine gate_callee (f := 11) rfl ?_)
       refine goesL_ (some 66) rfl rfl Try.func11 (by kernel_rfl) rfl #[.slice Aq32 r.length cq32, .int .i64 1] rfl (by (try simp only [List.map_toArray, List.map_cons, List.map_nil]); first | done | rfl) ?_
       (with_reducible refine (markStringS_own r p19 1 (by first | decide | (have := HZ.out; omega)) (Int.le_trans p20 (by decide)) _ (fun k => some k = (.slice Aq32 r.length cq32 : Value).ownBlock ∧ True ∧ n33 ≤ k ∧ k < n34) W _ HB.out (Kd.R_mono (Kd.R_tight2 rfl Hq32.out) (fun k hk => hk))).mono ?_)
       rintro e w57 ⟨he, hr0, hb2, hk⟩
       obtain rfl : e = .returned (.int .i64 m2) := by rw [he, Hp21.out]
       clear he
       refine ⟨_, rfl, ?_⟩
       clear Hq32
       have n1 := Kd.R_kept Hq17.out hk (fun k hk h1 => by have := Ln8.out; have := Ln13.out; have := Ln18.out; have := Ln23.out; have := Ln28.out; have := Ln33.out; have := Ln40.out; have := Ln47.out; have := hk.2; have := h1.2; omega)
       have n2 := Nat.le_trans HZ.out hk.1
       clear Hq17 HZ
       have Hq17 := Aside0.mk n1
       have HZ := Aside0.mk n2
       clear n1 n2
       have n1 := hb2; clear HB; have HB := Aside0.mk n1; clear n1
       have Hq32 := Aside0.mk hr0
       clear hb2 hk hr0)
    | ((with_reducible refine gate_callee (f := 12) rfl ?_)
       refine goesL_ (some 69) rfl rfl Try.func12 (by kernel_rfl) rfl #[.slice Aq32 r.length cq32, .int .i64 1] rfl (by (try simp only [List.map_toArray, List.map_cons, List.map_nil]); first | done | rfl) ?_
       have hh := p23
       obtain ⟨kq60, eq60⟩ := hh
       refine calls_of_args (args' := #[.slice Aq32 (mtS (1) r.length).length cq32, .int .i64 1]) (by simp only [mtS_length]) ?_
       (with_reducible refine (laws_heldStringS.calls kq60 _ _ (mtS (1) r.length) 1 m2 _ (by first | exact (Kd.R_reads' Hq32.out).2.2 | (rw [mtS_length]; exact (Kd.R_reads' Hq32.out).2.2)) (by first | exact (Kd.R_reads' Hq32.out).2.1 | (rw [mtS_length]; exact (Kd.R_reads' Hq32.out).2.1)) eq60).mono ?_)
       rintro e w59 ⟨rfl, hb⟩
       (try replace hb := Drawn0.below hb)
       refine ⟨_, rfl, ?_⟩
       have n1 := Kd.R_below Hq17.out hb
       have n2 := Kd.R_below Hq32.out hb
       have n3 := below_step HB.out hb
       have n4 := Nat.le_trans HZ.out hb.size
       clear Hq17 Hq32 HB HZ
       have Hq17 := Aside0.mk n1
       have Hq32 := Aside0.mk n2
       have HB := Aside0.mk n3
       have HZ := Aside0.mk n4
       clear n1 n2 n3 n4
       clear hb)
    | ((with_reducible refine gate_callee (f := 8) rfl ?_)
       refine goesL_ (some 76) rfl rfl Try.func8 (by kernel_rfl) rfl #[.slice A0 x0.length c0] rfl (by (try simp only [List.map_toArray, List.map_cons, List.map_nil]); first | done | rfl) ?_
       have hh := p4
       obtain ⟨kq62, eq62⟩ := hh
       (with_reducible refine (laws_toStringS.calls kq62 _ _ (x0) y0 _ (Kd.C_below HA0.out HB.out) kHA0 eq62).mono ?_)
       rintro e w61 ⟨u0, rfl, ho0, hb⟩
       refine ⟨_, rfl, ?_⟩
       obtain ⟨n64, en64⟩ : ∃ n, n = w59.heap.size := ⟨_, rfl⟩
       obtain ⟨n65, en65⟩ : ∃ n, n = w61.heap.size := ⟨_, rfl⟩
       have En64 := Aside0.mk en64; have En65 := Aside0.mk en65
       clear en64 en65
       have Hq63 := Aside0.mk (Ow.R_iv (base := W.heap.size) ho0 En64.out En65.out (by have := HZ.out; have := Ln8.out; have := Ln13.out; have := Ln18.out; have := Ln23.out; have := Ln28.out; have := Ln33.out; have := Ln40.out; have := Ln47.out; have := En64.out; omega))
       clear ho0
       obtain ⟨Aq63, cq63, ea⟩ := Kd.R_slice Hq63.out
       subst ea
       have Ln64 := Aside0.mk (show n48 ≤ n64 ∧ n64 ≤ n65 by have := HZ.out; have := hb.size; have := En64.out; have := En65.out; omega)
       have n1 := Kd.R_below Hq17.out hb
       have n2 := Kd.R_below Hq32.out hb
       have n3 := below_step HB.out hb
       have n4 := Nat.le_trans HZ.out hb.size
       clear Hq17 Hq32 HB HZ
       have Hq17 := Aside0.mk n1
       have Hq32 := Aside0.mk n2
       have HB := Aside0.mk n3
       have HZ := Aside0.mk n4
       clear n1 n2 n3 n4
       replace HZ := Aside0.mk (show n65 ≤ w61.heap.size by have := En65.out; omega)
       clear hb)
    | ((with_reducible refine gate_callee (f := 8) rfl ?_)
       refine goesL_ (some 78) rfl rfl Try.func8 (by kernel_rfl) rfl #[.slice A1 x1.length c1] rfl (by (try simp only [List.map_toArray, List.map_cons, List.map_nil]); first | done | rfl) ?_
       have hh := p5
       obtain ⟨kq67, eq67⟩ := hh
       (with_reducible refine (laws_toStringS.calls kq67 _ _ (x1) y1 _ (Kd.C_below HA1.out HB.out) kHA1 eq67).mono ?_)
       rintro e w66 ⟨u0, rfl, ho0, hb⟩
       refine ⟨_, rfl, ?_⟩
       obtain ⟨n69, en69⟩ : ∃ n, n = w61.heap.size := ⟨_, rfl⟩
       obtain ⟨n70, en70⟩ : ∃ n, n = w66.heap.size := ⟨_, rfl⟩
       have En69 := Aside0.mk en69; have En70 := Aside0.mk en70
       clear en69 en70
       have Hq68 := Aside0.mk (Ow.R_iv (base := W.heap.size) ho0 En69.out En70.out (by have := HZ.out; have := Ln8.out; have := Ln13.out; have := Ln18.out; have := Ln23.out; have := Ln28.out; have := Ln33.out; have := Ln40.out; have := Ln47.out; have := Ln64.out; have := En69.out; omega))
       clear ho0
       obtain ⟨Aq68, cq68, ea⟩ := Kd.R_slice Hq68.out
       subst ea
       have Ln69 := Aside0.mk (show n65 ≤ n69 ∧ n69 ≤ n70 by have := HZ.out; have := hb.size; have := En69.out; have := En70.out; omega)
       have n1 := Kd.R_below Hq17.out hb
       have n2 := Kd.R_below Hq32.out hb
       have n3 := Kd.R_below Hq63.out hb
       have n4 := below_step HB.out hb
       have n5 := Nat.le_trans HZ.out hb.size
       clear Hq17 Hq32 Hq63 HB HZ
       have Hq17 := Aside0.mk n1
       have Hq32 := Aside0.mk n2
       have Hq63 := Aside0.mk n3
       have HB := Aside0.mk n4
       have HZ := Aside0.mk n5
       clear n1 n2 n3 n4 n5
       replace HZ := Aside0.mk (show n70 ≤ w66.heap.size by have := En70.out; omega)
       clear hb)
    | ((with_reducible refine gate_callee (f := 9) rfl ?_)
       refine goesL_ (some 79) rfl rfl Try.func9 (by kernel_rfl) rfl #[.slice Aq63 y0.length cq63, .slice Aq68 y1.length cq68] rfl (by (try simp only [List.map_toArray, List.map_cons, List.map_nil]); first | done | rfl) ?_
       have hh := p7
       obtain ⟨kq72, eq72⟩ := hh
       (with_reducible refine (impl_UniteNames.calls kq72 _ _ (y0) _ _ (y1) r _ (Kd.R_reads' Hq63.out).2.2 (Kd.R_reads' Hq63.out).2.1 (Kd.R_reads' Hq68.out).2.2 (Kd.R_reads' Hq68.out).2.1 eq72).mono ?_)
       rintro e w71 ⟨u0, rfl, ho0, hb⟩
       refine ⟨_, rfl, ?_⟩
       obtain ⟨n74, en74⟩ : ∃ n, n = w66.heap.size := ⟨_, rfl⟩
       obtain ⟨n75, en75⟩ : ∃ n, n = w71.heap.size := ⟨_, rfl⟩
       have En74 := Aside0.mk en74; have En75 := Aside0.mk en75
       clear en74 en75
       have Hq73 := Aside0.mk (Ow.R_iv (base := W.heap.size) ho0 En74.out En75.out (by have := HZ.out; have := Ln8.out; have := Ln13.out; have := Ln18.out; have := Ln23.out; have := Ln28.out; have := Ln33.out; have := Ln40.out; have := Ln47.out; have := Ln64.out; have := Ln69.out; have := En74.out; omega))
       clear ho0
       obtain ⟨Aq73, cq73, ea⟩ := Kd.R_slice Hq73.out
       subst ea
       have Ln74 := Aside0.mk (show n70 ≤ n74 ∧ n74 ≤ n75 by have := HZ.out; have := hb.size; have := En74.out; have := En75.out; omega)
       have n1 := Kd.R_below Hq17.out hb
       have n2 := Kd.R_below Hq32.out hb
       have n3 := Kd.R_below Hq63.out hb
       have n4 := Kd.R_below Hq68.out hb
       have n5 := below_step HB.out hb
       have n6 := Nat.le_trans HZ.out hb.size
       clear Hq17 Hq32 Hq63 Hq68 HB HZ
       have Hq17 := Aside0.mk n1
       have Hq32 := Aside0.mk n2
       have Hq63 := Aside0.mk n3
       have Hq68 := Aside0.mk n4
       have HB := Aside0.mk n5
       have HZ := Aside0.mk n6
       clear n1 n2 n3 n4 n5 n6
       replace HZ := Aside0.mk (show n75 ≤ w71.heap.size by have := En75.out; omega)
       clear hb)
    | ((with_reducible refine gate_callee (f := 10) rfl ?_)
       refine goesL_ (some 82) rfl rfl Try.func10 (by kernel_rfl) rfl #[.slice Aq73 r.length cq73, .slice Aq17 r.length cq17] rfl (by (try simp only [List.map_toArray, List.map_cons, List.map_nil]); first | done | rfl) ?_
       have hh := p8
       obtain ⟨kq77, eq77⟩ := hh
       (with_reducible refine (laws_eqStringS.calls kq77 _ _ (r) _ _ (r) true _ (Kd.R_reads' Hq73.out).2.2 (Kd.R_reads' Hq73.out).2.1 (Kd.R_reads' Hq17.out).2.2 (Kd.R_reads' Hq17.out).2.1 eq77).mono ?_)
       rintro e w76 ⟨rfl, hb⟩
       (try replace hb := Drawn0.below hb)
       refine ⟨_, rfl, ?_⟩
       have n1 := Kd.R_below Hq17.out hb
       have n2 := Kd.R_below Hq32.out hb
       have n3 := Kd.R_below Hq73.out hb
       have n4 := below_step HB.out hb
       have n5 := Nat.le_trans HZ.out hb.size
       clear Hq17 Hq32 Hq73 HB HZ
       have Hq17 := Aside0.mk n1
       have Hq32 := Aside0.mk n2
       have Hq73 := Aside0.mk n3
       have HB := Aside0.mk n4
       have HZ := Aside0.mk n5
       clear n1 n2 n3 n4 n5
       clear hb)
    | ((with_reducible refine gate_callee (f := 12) rfl ?_)
       refine goesL_ (some 86) rfl rfl Try.func12 (by kernel_rfl) rfl #[.slice Aq32 r.length cq32, .int .i64 1] rfl (by (try simp only [List.map_toArray, List.map_cons, List.map_nil]); first | done | rfl) ?_
       have hh := p23
       obtain ⟨kq79, eq79⟩ := hh
       refine calls_of_args (args' := #[.slice Aq32 (mtS (1) r.length).length cq32, .int .i64 1]) (by simp only [mtS_length]) ?_
       (with_reducible refine (laws_heldStringS.calls kq79 _ _ (mtS (1) r.length) 1 m2 _ (by first | exact (Kd.R_reads' Hq32.out).2.2 | (rw [mtS_length]; exact (Kd.R_reads' Hq32.out).2.2)) (by first | exact (Kd.R_reads' Hq32.out).2.1 | (rw [mtS_length]; exact (Kd.R_reads' Hq32.out).2.1)) eq79).mono ?_)
       rintro e w78 ⟨rfl, hb⟩
       (try replace hb := Drawn0.below hb)
       refine ⟨_, rfl, ?_⟩
       have n1 := Kd.R_below Hq32.out hb
       have n2 := below_step HB.out hb
       have n3 := Nat.le_trans HZ.out hb.size
       clear Hq32 HB HZ
       have Hq32 := Aside0.mk n1
       have HB := Aside0.mk n2
       have HZ := Aside0.mk n3
       clear n1 n2 n3
       clear hb))
  go_ret
  exact ⟨rfl, HB.out⟩
set_option maxHeartbeats 8000000 in
set_option maxRecDepth 100000 in
theorem FnExactUniteNames_stop1 (x0 : List ByteArray) (x1 : List ByteArray) (y0 : List ByteArray) (y1 : List ByteArray) (r : List ByteArray) (left0 : Int)
    (p0 : ∃ k, laws_szStringS.f k (x0) 1048576 = some left0)
    (p1 : decide (left0 < 0) = true)
    (W : World) {A0 : Option Addr} {c0 : Nat} (hHA0 : Kd.C Kd.string W A0 x0.length x0) (kHA0 : x0.length ≤ c0) {A1 : Option Addr} {c1 : Nat} (hHA1 : Kd.C Kd.string W A1 x1.length x1) (kHA1 : x1.length ≤ c1) :
    Calls Try.prog 3 #[.slice A0 x0.length c0, .slice A1 x1.length c1] W fun e w' => e = .returned (.bool true) ∧ Below W.heap.size W w' := by
  have HA0 := Aside0.mk hHA0
  clear hHA0
  have HA1 := Aside0.mk hHA1
  clear hHA1
  have HB := Aside0.mk (Below.refl W.heap.size W)
  have HZ := Aside0.mk (Nat.le_refl W.heap.size)
  have HZ0 := Aside0.mk (Nat.le_refl W.heap.size)
  go_enter Try.func3, Try.ntmps3
  go_wp2_with (first
    | ((with_reducible refine gate_callee (f := 6) rfl ?_)
       refine goesL_ (some 16) rfl rfl Try.func6 (by kernel_rfl) rfl #[.slice A0 x0.length c0, .int .i64 1048576] rfl (by (try simp only [List.map_toArray, List.map_cons, List.map_nil]); first | done | rfl) ?_
       have hh := p0
       obtain ⟨kq2, eq2⟩ := hh
       (with_reducible refine (laws_szStringS.calls kq2 _ _ (x0) 1048576 left0 _ (Kd.C_below HA0.out HB.out) kHA0 eq2).mono ?_)
       rintro e w1 ⟨rfl, hb⟩
       (try replace hb := Drawn0.below hb)
       refine ⟨_, rfl, ?_⟩
       have n1 := below_step HB.out hb
       have n2 := Nat.le_trans HZ.out hb.size
       clear HB HZ
       have HB := Aside0.mk n1
       have HZ := Aside0.mk n2
       clear n1 n2
       clear hb))
  go_ret
  exact ⟨rfl, HB.out⟩
set_option maxHeartbeats 8000000 in
set_option maxRecDepth 100000 in
theorem FnExactUniteNames_stop2 (x0 : List ByteArray) (x1 : List ByteArray) (y0 : List ByteArray) (y1 : List ByteArray) (r : List ByteArray) (left0 : Int) (left1 : Int)
    (p0 : ∃ k, laws_szStringS.f k (x0) 1048576 = some left0)
    (p1 : decide (left0 < 0) = false)
    (p2 : ∃ k, laws_szStringS.f k (x1) left0 = some left1)
    (p3 : decide (left1 < 0) = true)
    (W : World) {A0 : Option Addr} {c0 : Nat} (hHA0 : Kd.C Kd.string W A0 x0.length x0) (kHA0 : x0.length ≤ c0) {A1 : Option Addr} {c1 : Nat} (hHA1 : Kd.C Kd.string W A1 x1.length x1) (kHA1 : x1.length ≤ c1) :
    Calls Try.prog 3 #[.slice A0 x0.length c0, .slice A1 x1.length c1] W fun e w' => e = .returned (.bool true) ∧ Below W.heap.size W w' := by
  have HA0 := Aside0.mk hHA0
  clear hHA0
  have HA1 := Aside0.mk hHA1
  clear hHA1
  have HB := Aside0.mk (Below.refl W.heap.size W)
  have HZ := Aside0.mk (Nat.le_refl W.heap.size)
  have HZ0 := Aside0.mk (Nat.le_refl W.heap.size)
  go_enter Try.func3, Try.ntmps3
  go_wp2_with (first
    | ((with_reducible refine gate_callee (f := 6) rfl ?_)
       refine goesL_ (some 16) rfl rfl Try.func6 (by kernel_rfl) rfl #[.slice A0 x0.length c0, .int .i64 1048576] rfl (by (try simp only [List.map_toArray, List.map_cons, List.map_nil]); first | done | rfl) ?_
       have hh := p0
       obtain ⟨kq2, eq2⟩ := hh
       (with_reducible refine (laws_szStringS.calls kq2 _ _ (x0) 1048576 left0 _ (Kd.C_below HA0.out HB.out) kHA0 eq2).mono ?_)
       rintro e w1 ⟨rfl, hb⟩
       (try replace hb := Drawn0.below hb)
       refine ⟨_, rfl, ?_⟩
       have n1 := below_step HB.out hb
       have n2 := Nat.le_trans HZ.out hb.size
       clear HB HZ
       have HB := Aside0.mk n1
       have HZ := Aside0.mk n2
       clear n1 n2
       clear hb)
    | ((with_reducible refine gate_callee (f := 6) rfl ?_)
       refine goesL_ (some 21) rfl rfl Try.func6 (by kernel_rfl) rfl #[.slice A1 x1.length c1, .int .i64 left0] rfl (by (try simp only [List.map_toArray, List.map_cons, List.map_nil]); first | done | rfl) ?_
       have hh := p2
       obtain ⟨kq4, eq4⟩ := hh
       (with_reducible refine (laws_szStringS.calls kq4 _ _ (x1) left0 left1 _ (Kd.C_below HA1.out HB.out) kHA1 eq4).mono ?_)
       rintro e w3 ⟨rfl, hb⟩
       (try replace hb := Drawn0.below hb)
       refine ⟨_, rfl, ?_⟩
       have n1 := below_step HB.out hb
       have n2 := Nat.le_trans HZ.out hb.size
       clear HB HZ
       have HB := Aside0.mk n1
       have HZ := Aside0.mk n2
       clear n1 n2
       clear hb))
  go_ret
  exact ⟨rfl, HB.out⟩
end Go.Proofs.Ytochgledinnlhaa.Pu
end
section
namespace Go.Proofs.Ytochgledinnlhaa.Pu
open Go.RowKit Go.Proofs.YtochgledinnlhaaW.PrintWords Go.Proofs.YtochgledinnlhaaW.PrintLast Go.Proofs.Ytochgledinnlhaa.Pl Go.Proofs.Ytochgledinnlhaa.Ext
set_option linter.unusedVariables false
set_option linter.unusedSimpArgs false
theorem FnExactUniteNames_told (x0 : List ByteArray) (hW0 : x0.length ≤ maxLen ∧ ∀ y ∈ x0, y.size ≤ maxLen) (x1 : List ByteArray) (hW1 : x1.length ≤ maxLen ∧ ∀ y ∈ x1, y.size ≤ maxLen) (W : World) {A0 : Option Addr} {c0 : Nat} (g0 : Kd.C Kd.string W A0 x0.length x0) (k0 : x0.length ≤ c0) {A1 : Option Addr} {c1 : Nat} (g1 : Kd.C Kd.string W A1 x1.length x1) (k1 : x1.length ≤ c1) :
    Calls Try.prog 3 #[.slice A0 x0.length c0, .slice A1 x1.length c1] W fun e w' => e = .returned (.bool true) ∧ Below W.heap.size W w' := by
  have hs := szStringS_ev x0 hW0 1048576 (by omega) (by omega)
  by_cases hc : cut (wts x0) 1048576 < 0
  · exact FnExactUniteNames_stop1 x0 x1 x0 x1 x0 _ hs.rounds (decide_eq_true hc) W g0 k0 g1 k1
  have hle := cut_le (n := wts x0) (left := 1048576) (by omega)
  have hs1 := szStringS_ev x1 hW1 (cut (wts x0) 1048576) (by omega) (by omega)
  by_cases hc1 : cut (wts x1) (cut (wts x0) 1048576) < 0
  · exact FnExactUniteNames_stop2 x0 x1 x0 x1 x0 _ _ hs.rounds (decide_eq_false hc) hs1.rounds (decide_eq_true hc1) W g0 k0 g1 k1
  have hw : wts x0 + wts x1 ≤ 1048576 := by
    have h1 := cut_add (m := wts x0) (n := wts x1) (left := 1048576) (by omega)
    rw [h1] at hc1
    have := (not_congr (cut_neg (n := wts x0 + wts x1) (left := 1048576))).1 hc1
    omega
  have hl : x0.length + x1.length ≤ 1048576 := by unfold wts at hw; omega
  have hr := uni_len (x0 ++ x1) []
  rw [List.length_append, List.length_nil] at hr
  refine FnExactUniteNames_walk x0 x1 x0 x1 (uni [] (x0 ++ x1)) _ _ _ _ _ hs.rounds (decide_eq_false hc) hs1.rounds (decide_eq_false hc1) (toStringS_ev x0 (by omega)).rounds (toStringS_ev x1 (by omega)).rounds (spec_UniteNames_ev x0 x1 hl).rounds ⟨0, ?_⟩
    (eqStringS_ev _ (by omega)).rounds (eqStringS_ev x0 (by omega)).rounds (eqStringS_ev x1 (by omega)).rounds
    (by omega) (by omega) rfl (decide_eq_false (by omega)) (by omega) (by omega) rfl (decide_eq_false (by omega)) (by omega) (by omega) rfl (decide_eq_false (by omega)) (heldStringS_ev _ (by omega) 1 (by omega) (by omega)).rounds W g0 k0 g1 k1
  unfold impl_UniteNames.f
  have hh : x0.length + x1.length < 8796093022208 ∧ ∀ s ∈ x0 ++ x1, s.size ≤ maxLen := by
    refine ⟨by omega, fun s hs => ?_⟩
    rcases List.mem_append.1 hs with h | h
    · exact hW0.2 s h
    · exact hW1.2 s h
  rw [if_pos hh]

end Go.Proofs.Ytochgledinnlhaa.Pu
end
section
namespace Go.Proofs.Ytochgledinnlhaa.Rd
open Go.RowKit Go.Proofs.YtochgledinnlhaaW.PrintWords
set_option linter.unusedVariables false
/-- What reads as_ data of type t, by at most n steps, is of kind d and meets q. -/
def Op (P : Program) (n : Nat) (t : TypeId) {α : Type} (d : Kd α) (q : α → Prop) : Prop :=
  ∀ (H : Type) (enc : TypeId × Value → H) (w : World) (base : Nat) (spare : Nat → Bool) (held : Bool) (fuel : Nat) (cs : List Value) (x : DataW H × List MemPlace),
    fuel ≤ n → DataW.trod enc P w base spare held fuel t cs = some x → ∃ y, d.K w y cs ∧ q y
theorem Op.int {P : Program} {n : Nat} {t : TypeId} {k : IntKind} (ht : P.underlying t = some (.int k)) : Op P n t (Kd.int k) (fun x => (Lit.int k x).wf = true) := by
  intro H enc w base spare held fuel cs x hf hx
  obtain ⟨m, rfl, rfl, hw⟩ := DataW.trod_int ht hx
  exact ⟨m, rfl, hw⟩
theorem Op.bool {P : Program} {n : Nat} {t : TypeId} (ht : P.underlying t = some .bool) : Op P n t Kd.bool (fun _ => True) := by
  intro H enc w base spare held fuel cs x hf hx
  obtain ⟨m, rfl, rfl⟩ := DataW.trod_bool ht hx
  exact ⟨m, rfl, trivial⟩
theorem trod_string' {H : Type} {enc : TypeId × Value → H} {P : Program} {w : World} {base : Nat} {spare : Nat → Bool} {held : Bool} {fuel : Nat} {t : TypeId} {cs : List Value} {x : DataW H × List MemPlace}
    (ht : P.underlying t = some .string) (h : DataW.trod enc P w base spare held fuel t cs = some x) : ∃ s, cs = [.string s] ∧ s.size ≤ maxLen := by
  cases fuel with
  | zero => simp [DataW.trod] at h
  | succ n =>
    unfold DataW.trod at h
    rw [ht] at h
    split at h <;> simp_all
theorem Op.string {P : Program} {n : Nat} {t : TypeId} (ht : P.underlying t = some .string) : Op P n t Kd.string (fun s => s.size ≤ maxLen) := by
  intro H enc w base spare held fuel cs x hf hx
  obtain ⟨m, rfl, hm⟩ := trod_string' ht hx
  exact ⟨m, rfl, hm⟩
theorem add_add (a : Addr) (i j : Nat) : (a.add i).add j = a.add (i + j) := by
  unfold Addr.add
  by_cases h1 : i = 0 <;> by_cases h2 : j = 0 <;> simp [h1, h2, Nat.add_assoc]
theorem choose_list {α : Type} {p : Nat → α → Prop} (n : Nat) (h : ∀ i, i < n → ∃ y, p i y) : ∃ ys : List α, ys.length = n ∧ ∀ i y, ys[i]? = some y → p i y := by
  induction n with
  | zero => exact ⟨[], rfl, fun i y hy => by simp at hy⟩
  | succ n ih =>
    obtain ⟨ys, hl, hy⟩ := ih (fun i hi => h i (by omega))
    obtain ⟨z, hz⟩ := h n (by omega)
    refine ⟨ys ++ [z], by simp [hl], fun i y hi => ?_⟩
    by_cases hlt : i < n
    · rw [List.getElem?_append_left (by omega)] at hi
      exact hy i y hi
    · by_cases he : i = n
      · subst he
        rw [List.getElem?_append_right (by omega)] at hi
        simp [hl] at hi
        subst hi
        exact hz
      · rw [List.getElem?_eq_none (by simp; omega)] at hi
        cases hi
theorem Op.slice {P : Program} {n : Nat} {t e : TypeId} {α : Type} {d : Kd α} {q : α → Prop} (ht : P.underlying t = some (.slice e)) (hsz : P.cellsOf e = d.sz) (h : ∀ k, k < n → Op P k e d q) :
    Op P n t (Kd.slice e d) (fun xs => xs.length ≤ maxLen ∧ ∀ y ∈ xs, q y) := by
  intro H enc w base spare held fuel cs x hf hx
  rcases DataW.trod_slice ht hx with ⟨rfl, _⟩ | ⟨a, len, cap, elems, rest, m, hm, rfl, _, hb, hl, hc, hlen, hel, _, _⟩
  · exact ⟨[], ⟨none, 0, rfl, Nat.le_refl _, ⟨rfl, by simp, fun hp => absurd hp (by simp)⟩⟩, by simp, fun y hy => by simp at hy⟩
  · have hone : ∀ i, i < len → ∃ y, (∃ c, c.length = d.sz ∧ d.K w y c ∧ ∀ j u, c[j]? = some u → w.cell? (a.add (i * d.sz + j)) = some u) ∧ q y := by
      intro i hi
      have h1 := hel i hi
      rw [List.getElem?_eq_getElem (by omega)] at h1
      obtain ⟨c, hc1, hc2⟩ := Option.bind_eq_some_iff.1 h1
      obtain ⟨y, hy, hq⟩ := h m (by omega) H enc w base spare held m c _ (Nat.le_refl _) hc2
      obtain ⟨_, hcl, hcells⟩ := World.cells?_some hc1
      refine ⟨y, ⟨c, by omega, hy, fun j u hu => ?_⟩, hq⟩
      have hj : j < P.cellsOf e := by
        rw [← hcl]
        exact (List.getElem?_eq_some_iff.1 hu).1
      have := hcells j hj
      rw [add_add, hsz] at this
      rw [this, hu]
    obtain ⟨ys, hyl, hys⟩ := choose_list len hone
    have hmx : len ≤ 9223372036854775807 := by
      have : cap ≤ 9223372036854775807 := hc
      omega
    refine ⟨ys, ⟨some a, cap, by rw [hyl], by omega, ⟨rfl, by omega, fun _ => ⟨a, rfl, fun j p hj => (hys j p hj).1⟩⟩⟩, by rw [hyl]; exact hmx, fun y hy => ?_⟩
    obtain ⟨i, hi, rfl⟩ := List.getElem_of_mem hy
    exact (hys i _ (List.getElem?_eq_getElem hi)).2
/-- Fields, from an offset on. -/
def OpF (P : Program) (n : Nat) (fs : List Field) (off : Nat) {α : Type} (d : Kd α) (q : α → Prop) : Prop :=
  ∀ (H : Type) (enc : TypeId × Value → H) (w : World) (base : Nat) (spare : Nat → Bool) (held : Bool) (fuel : Nat) (cs : List Value), fuel ≤ n →
    (∀ f ∈ fs, ∃ x, DataW.trod enc P w base spare held fuel f.type ((cs.drop f.offset).take (P.cellsOf f.type)) = some x) → cs.length = off + d.sz → ∃ y, d.K w y (cs.drop off) ∧ q y
theorem OpF.one {P : Program} {n : Nat} {f : Field} {off : Nat} {α : Type} {d : Kd α} {q : α → Prop} (ho : f.offset = off) (hsz : P.cellsOf f.type = d.sz) (h : Op P n f.type d q) : OpF P n [f] off d q := by
  intro H enc w base spare held fuel cs hf hx hl
  obtain ⟨x, hx⟩ := hx f (List.mem_singleton.2 rfl)
  rw [ho, hsz, List.take_of_length_le (by rw [List.length_drop]; omega)] at hx
  exact h H enc w base spare held fuel _ x hf hx
theorem OpF.cons {P : Program} {n : Nat} {f : Field} {fs : List Field} {off : Nat} {α β : Type} {a : Kd α} {b : Kd β} {qa : α → Prop} {qb : β → Prop} (ho : f.offset = off) (hsz : P.cellsOf f.type = a.sz) (h : Op P n f.type a qa) (hr : OpF P n fs (off + a.sz) b qb) :
    OpF P n (f :: fs) off (Kd.pair a b) (fun y => qa y.1 ∧ qb y.2) := by
  intro H enc w base spare held fuel cs hf hx hl
  have hl' : cs.length = off + (a.sz + b.sz) := hl
  obtain ⟨x, h1⟩ := hx f (List.mem_cons_self ..)
  rw [ho, hsz] at h1
  obtain ⟨y, hy, hq⟩ := h H enc w base spare held fuel _ x hf h1
  obtain ⟨z, hz, hq2⟩ := hr H enc w base spare held fuel cs hf (fun g hg => hx g (List.mem_cons_of_mem _ hg)) (by omega)
  refine ⟨(y, z), ⟨_, _, ?_, hy, hz⟩, hq, hq2⟩
  rw [← List.drop_drop, List.take_append_drop]
theorem Op.struct {P : Program} {n : Nat} {t : TypeId} {fs : Array Field} {α : Type} {d : Kd α} {q : α → Prop} (ht : P.underlying t = some (.struct fs)) (hsz : P.cellsOf t = d.sz) (h : ∀ k, k < n → OpF P k fs.toList 0 d q) : Op P n t d q := by
  intro H enc w base spare held fuel cs x hf hx
  obtain ⟨xs, m, hm, _, hl, hxl, hfs⟩ := DataW.trod_struct ht hx
  have hr := h m (by omega) H enc w base spare held m cs (Nat.le_refl _) (fun f hfm => ?_) (by omega)
  · simpa using hr
  · obtain ⟨i, hi, rfl⟩ := List.getElem_of_mem hfm
    have hi' : i < fs.size := by simpa using hi
    have h2 := hfs i _ (Array.getElem?_eq_getElem hi')
    rw [List.getElem?_eq_getElem (by omega)] at h2
    exact ⟨_, by simpa using h2⟩
/-- The same at whatever fuel. -/
theorem Op.open_ {P : Program} {t : TypeId} {α : Type} {d : Kd α} {q : α → Prop} (h : ∀ n, Op P n t d q) {H : Type} {enc : TypeId × Value → H} {w : World} {base : Nat} {spare : Nat → Bool} {held : Bool} {v : Value} {x : DataW H} {ps : List MemPlace}
    (ht : DataW.Trod enc P w base spare held t v x ps) : ∃ y, d.K w y v.cells.toList ∧ q y := by
  obtain ⟨fuel, hf⟩ := ht
  exact h fuel H enc w base spare held fuel _ _ (Nat.le_refl _) hf
end Go.Proofs.Ytochgledinnlhaa.Rd
end
