/- The walk of FnExactSubstTerm: at whatever arguments read as data of its types it returns true. No condition. -/
import Derived.Test.YtpckkjeapfdilaaDoorZSubstTermPx0M
import Derived.Test.YtpckkjeapfdilaaDoorZSubstTermPx14M
import Derived.Test.YtpckkjeapfdilaaDoorZSubstTermPx17M
import Derived.Test.YtpckkjeapfdilaaDoorZSubstTermPx7
import Derived.Test.YtpckkjeapfdilaaDoorZSubstTermPlM
import Derived.Test.YtpckkjeapfdilaaDoorZSubstTermPxHt2M
import Derived.Test.YtpckkjeapfdilaaDoorZSubstTermPxMkEM
import Derived.Test.YtpckkjeapfdilaaDoorZSubstTermPxSubI
import Derived.Test.YtpckkjeapfdilaaDoorZSubstTermPxSubS
import Derived.Test.YtpckkjeapfdilaaDoorZSubstTermPx6M
import Derived.Laws.EntriesVeiled
import Derived.Test.YtpckkjeapfdilaaDoorZSubstTermWLastM
import Derived.Tactics2
import Derived.BigCall
namespace Go.Proofs.YtpckkjeapfdilaaDoor.Px
open Go.RowKit Go.Proofs.YtpckkjeapfdilaaDoorW.PrintWords Go.Proofs.YtpckkjeapfdilaaDoorW.PrintLast Go.Proofs.YtpckkjeapfdilaaDoorW.PrintMore Go.Proofs.YtpckkjeapfdilaaDoor.Pl Go.Proofs.YtpckkjeapfdilaaDoor.Ext
set_option linter.unusedVariables false
set_option linter.unusedSimpArgs false
def mWSub0 : Array Bool := #[false, false, false, false, false, false, false, false]
def mWSub1 : Array Bool := #[true, false, false, false, false, false, false, false]
def mWSub2 : Array Bool := #[true, false, false, true, false, false, false, false]
def mWSub3 : Array Bool := #[true, false, true, true, false, false, false, false]
def mWSub4 : Array Bool := #[true, true, true, true, false, false, false, false]
def mWSub5 : Array Bool := #[true, false, true, true, false, false, true, false]
def mWSub6 : Array Bool := #[true, true, true, true, false, false, true, false]
def mWSub7 : Array Bool := #[true, true, true, true, true, false, false, false]
def mWSub8 : Array Bool := #[true, true, true, true, true, false, true, false]
def mWSub9 : Array Bool := #[true, true, true, true, true, true, false, false]
def mWSub10 : Array Bool := #[true, true, true, true, true, true, true, false]
def mWSub11 : Array Bool := #[true, true, true, true, true, true, true, true]
def mWSub12 : Array Bool := #[false, false, false, false, false]
def mWSub13 : Array Bool := #[true, false, false, false, false]
def mWSub14 : Array Bool := #[true, true, false, false, false]
def mWSub15 : Array Bool := #[true, true, true, false, false]
def mWSub16 : Array Bool := #[true, true, true, true, false]
def mWSub17 : Array Bool := #[true, true, true, true, true]
def tabL.T10 : Bool × List (List Nat × List Nat) := (true, [([], []), ([0], [0]), ([], []), ([], []), ([3, 1], [3]), ([1, 2, 4, 4], [1, 2, 4]), ([], []), ([6, 5, 5, 0, 1, 2, 3, 4, 5, 6], [5, 6])])
def tabL.B10 : List Nat := [0, 1, 0, 0, 11, 31, 0, 127]
theorem tabL.tab10 : rtab .any (opsOf Tryd.f3 10) = tabL.T10 := by kernel_rfl
theorem tabL.bits10 : waitsOk tabL.T10.2 tabL.B10 = true := by kernel_rfl
def tabL.T16 : Bool × List (List Nat × List Nat) := (true, [([], []), ([], []), ([1], [1]), ([0, 2, 2], [0, 2]), ([3], [3])])
def tabL.B16 : List Nat := [0, 0, 2, 7, 15]
theorem tabL.tab16 : rtab .any (opsOf Tryd.f3 16) = tabL.T16 := by kernel_rfl
theorem tabL.bits16 : waitsOk tabL.T16.2 tabL.B16 = true := by kernel_rfl
def tabL.T18 : Bool × List (List Nat × List Nat) := (true, [([], []), ([], []), ([1], [1]), ([0, 2, 2], [0, 2]), ([3], [3])])
def tabL.B18 : List Nat := [0, 0, 2, 7, 15]
theorem tabL.tab18 : rtab .any (opsOf Tryd.f3 18) = tabL.T18 := by kernel_rfl
theorem tabL.bits18 : waitsOk tabL.T18.2 tabL.B18 = true := by kernel_rfl
def tabL.T33 : Bool × List (List Nat × List Nat) := (true, [([], []), ([0], [0]), ([], []), ([], []), ([3, 1], [3]), ([1, 2, 4, 4], [1, 2, 4]), ([], []), ([6, 5, 5, 0, 1, 2, 3, 4, 5, 6], [5, 6])])
def tabL.B33 : List Nat := [0, 1, 0, 0, 11, 31, 0, 127]
theorem tabL.tab33 : rtab .any (opsOf Tryd.f3 33) = tabL.T33 := by kernel_rfl
theorem tabL.bits33 : waitsOk tabL.T33.2 tabL.B33 = true := by kernel_rfl
set_option maxHeartbeats 8000000 in
set_option maxRecDepth 100000 in
theorem FnExactSubstTerm_told (x0 : S28) (hW0 : W28 x0) (nm : ByteArray) (x2 : S28) (hW2 : W28 x2) (w : World) {A1 : Option Addr} {c1 : Nat} {A2 : Option Addr} {c2 : Nat} {A3 : Option Addr} {c3 : Nat} {A4 : Option Addr} {c4 : Nat} {D1 : Option Addr} {kz1 : Nat} {D2 : Option Addr} {kz2 : Nat} {D3 : Option Addr} {kz3 : Nat} {D4 : Option Addr} {kz4 : Nat} (g1 : Kd.C Kd.string w A1 x0.f3.f1.length x0.f3.f1) (gl1 : x0.f3.f1.length ≤ c1) (g2 : Kd.C k25 w A2 x0.f3.f2.length x0.f3.f2) (gl2 : x0.f3.f2.length ≤ c2) (g3 : Kd.C Kd.string w A3 x0.f4.length x0.f4) (gl3 : x0.f4.length ≤ c3) (g4 : Kd.C k28 w A4 x0.f5.length x0.f5) (gl4 : x0.f5.length ≤ c4) (h1 : Kd.C Kd.string w D1 x2.f3.f1.length x2.f3.f1) (hl1 : x2.f3.f1.length ≤ kz1) (h2 : Kd.C k25 w D2 x2.f3.f2.length x2.f3.f2) (hl2 : x2.f3.f2.length ≤ kz2) (h3 : Kd.C Kd.string w D3 x2.f4.length x2.f4) (hl3 : x2.f4.length ≤ kz3) (h4 : Kd.C k28 w D4 x2.f5.length x2.f5) (hl4 : x2.f5.length ≤ kz4) (hL : Laid w) :
  Calls Tryd.prog 3 #[.agg #[.int .i64 x0.f0, .string x0.f1, .int .i64 x0.f2, .int .i64 x0.f3.f0, .slice A1 x0.f3.f1.length c1, .slice A2 x0.f3.f2.length c2, .slice A3 x0.f4.length c3, .slice A4 x0.f5.length c4], .string nm, .agg #[.int .i64 x2.f0, .string x2.f1, .int .i64 x2.f2, .int .i64 x2.f3.f0, .slice D1 x2.f3.f1.length kz1, .slice D2 x2.f3.f2.length kz2, .slice D3 x2.f4.length kz3, .slice D4 x2.f5.length kz4]] w fun e w' => e = .returned (.bool true) ∧ Below w.heap.size w w' := by
 have X1 := k_ (And.intro g1 gl1); have X2 := k_ (And.intro g2 gl2); have X3 := k_ (And.intro g3 gl3); have X4 := k_ (And.intro g4 gl4); have Z1 := k_ (And.intro h1 hl1); have Z2 := k_ (And.intro h2 hl2); have Z3 := k_ (And.intro h3 hl3); have Z4 := k_ (And.intro h4 hl4); have HL := k_ hL; have HB := k_ (Below.refl w.heap.size w)
 clear g1 gl1 g2 gl2 g3 gl3 g4 gl4 h1 hl1 h2 hl2 h3 hl3 h4 hl4 hL
 have hu28 := Tryd.underlying28
 have hu25 := Tryd.underlying25
 have hu35 := Tryd.underlying35
 have hu32 := Tryd.underlying32
 by_cases c1 : (nm.size : Int) > 1048576
 ·have c1a : decide ((nm.size : Int) > 1048576) = true := decide_eq_true c1
  have c1' := k_ c1
  clear c1
  go_enter Tryd.func3, Tryd.ntmps3
  go_wp2_with (first | ((with_reducible refine gate_dst (N := 3) rfl ?_); refine box_event ?hg (N := 3) ?hd (cs := #[.int .i64 x0.f0, .string x0.f1, .int .i64 x0.f2, .int .i64 x0.f3.f0, .slice A1 x0.f3.f1.length c1, .slice A2 x0.f3.f2.length c2, .slice A3 x0.f4.length c3, .slice A4 x0.f5.length c4]) (t := 28) ?hr ?_; (case hd => rfl); (case hg => rfl); (case hr => first | (go_simp; done) | (go_simp; rfl)); intro g3 hg w1 hbox hb; have G_g3 := k_ (nwG hg HB.out); replace HB := k_ (below_step HB.out hb); have H3 := k_ hbox; clear hg hbox hb) | ((with_reducible refine gate_dst (N := 5) rfl ?_); refine box_event ?hg (N := 5) ?hd (cs := #[.int .i64 x2.f0, .string x2.f1, .int .i64 x2.f2, .int .i64 x2.f3.f0, .slice D1 x2.f3.f1.length kz1, .slice D2 x2.f3.f2.length kz2, .slice D3 x2.f4.length kz3, .slice D4 x2.f5.length kz4]) (t := 28) ?hr ?_; (case hd => rfl); (case hg => rfl); (case hr => first | (go_simp; done) | (go_simp; rfl)); intro g5 hg w2 hbox hb; have N_g3_g5 := k_ (nwN hg H3.out); have N_g5_g3 := k_ (Ne.symm N_g3_g5.out); have G_g5 := k_ (nwG hg HB.out); replace HB := k_ (below_step HB.out hb); replace H3 := k_ (blk_below H3.out hb); have H5 := k_ hbox; clear hg hbox hb))
  go_ret
  exact ⟨rfl, HB.out⟩
 ·have c1a : decide ((nm.size : Int) > 1048576) = false := decide_eq_false c1
  have c1' := k_ c1
  clear c1
  obtain ⟨KS, hKS⟩ := szTerm_ev x0 hW0 1048576 (by omega) (by omega)
  obtain ⟨l1, hl1⟩ : ∃ l, l = cut (wtTerm x0) 1048576 := ⟨_, rfl⟩
  rw [← hl1] at hKS
  have HS0 := k_ (hKS KS (Nat.le_refl _)); have HL1 := k_ hl1
  clear hKS hl1
  have mk1_ := True.intro
  by_cases c2 : l1 < 0
  ·have c2a : decide (l1 < 0) = true := decide_eq_true c2
   clear c2
   go_enter Tryd.func3, Tryd.ntmps3
   go_wp2_with (first | ((with_reducible refine gate_dst (N := 3) rfl ?_); refine box_event ?hg (N := 3) ?hd (cs := #[.int .i64 x0.f0, .string x0.f1, .int .i64 x0.f2, .int .i64 x0.f3.f0, .slice A1 x0.f3.f1.length c1, .slice A2 x0.f3.f2.length c2, .slice A3 x0.f4.length c3, .slice A4 x0.f5.length c4]) (t := 28) ?hr ?_; (case hd => rfl); (case hg => rfl); (case hr => first | (go_simp; done) | (go_simp; rfl)); intro g3 hg w1 hbox hb; have G_g3 := k_ (nwG hg HB.out); replace HB := k_ (below_step HB.out hb); have H3 := k_ hbox; clear hg hbox hb) | ((with_reducible refine gate_dst (N := 5) rfl ?_); refine box_event ?hg (N := 5) ?hd (cs := #[.int .i64 x2.f0, .string x2.f1, .int .i64 x2.f2, .int .i64 x2.f3.f0, .slice D1 x2.f3.f1.length kz1, .slice D2 x2.f3.f2.length kz2, .slice D3 x2.f4.length kz3, .slice D4 x2.f5.length kz4]) (t := 28) ?hr ?_; (case hd => rfl); (case hg => rfl); (case hr => first | (go_simp; done) | (go_simp; rfl)); intro g5 hg w2 hbox hb; have N_g3_g5 := k_ (nwN hg H3.out); have N_g5_g3 := k_ (Ne.symm N_g3_g5.out); have G_g5 := k_ (nwG hg HB.out); replace HB := k_ (below_step HB.out hb); replace H3 := k_ (blk_below H3.out hb); have H5 := k_ hbox; clear hg hbox hb; have r11 := blk8 H3.out) | (go_at_call 4; clear mk1_; refine (laws_szTerm.calls KS x0.f0 x0.f1 x0.f2 x0.f3.f0 _ _ x0.f3.f1 _ _ x0.f3.f2 _ _ x0.f4 _ _ x0.f5 1048576 l1 _ (Kd.C_below X1.out.1 HB.out) X1.out.2 (Kd.C_below X2.out.1 HB.out) X2.out.2 (Kd.C_below X3.out.1 HB.out) X3.out.2 (Kd.C_below X4.out.1 HB.out) X4.out.2 HS0.out).mono ?_; rintro e w3 ⟨rfl, hb⟩; replace HB := k_ (below_step HB.out hb); replace H3 := k_ (blk_below H3.out hb); replace H5 := k_ (blk_below H5.out hb); clear hb))
   go_ret
   exact ⟨rfl, HB.out⟩
  ·have C2 := k_ c2
   have c2a : decide (l1 < 0) = false := decide_eq_false c2
   clear c2
   have HLE := k_ (cut_facts (wtTerm x0) 1048576 (by omega) (by have := C2.out; rw [HL1.out] at this; omega))
   rw [← HL1.out] at HLE
   obtain ⟨KZ, hKZ⟩ := szTerm_ev x2 hW2 l1 (by have := HLE.out; omega) (by have := HLE.out; omega)
   obtain ⟨l2, hl2⟩ : ∃ l, l = cut (wtTerm x2) l1 := ⟨_, rfl⟩
   rw [← hl2] at hKZ
   have HS2 := k_ (hKZ KZ (Nat.le_refl _)); have HL2 := k_ hl2
   clear hKZ hl2
   have mk2_ := True.intro
   by_cases c3 : l2 < 0
   ·have c3a : decide (l2 < 0) = true := decide_eq_true c3
    clear c3
    go_enter Tryd.func3, Tryd.ntmps3
    go_wp2_with (first | ((with_reducible refine gate_dst (N := 3) rfl ?_); refine box_event ?hg (N := 3) ?hd (cs := #[.int .i64 x0.f0, .string x0.f1, .int .i64 x0.f2, .int .i64 x0.f3.f0, .slice A1 x0.f3.f1.length c1, .slice A2 x0.f3.f2.length c2, .slice A3 x0.f4.length c3, .slice A4 x0.f5.length c4]) (t := 28) ?hr ?_; (case hd => rfl); (case hg => rfl); (case hr => first | (go_simp; done) | (go_simp; rfl)); intro g3 hg w1 hbox hb; have G_g3 := k_ (nwG hg HB.out); replace HB := k_ (below_step HB.out hb); have H3 := k_ hbox; clear hg hbox hb) | ((with_reducible refine gate_dst (N := 5) rfl ?_); refine box_event ?hg (N := 5) ?hd (cs := #[.int .i64 x2.f0, .string x2.f1, .int .i64 x2.f2, .int .i64 x2.f3.f0, .slice D1 x2.f3.f1.length kz1, .slice D2 x2.f3.f2.length kz2, .slice D3 x2.f4.length kz3, .slice D4 x2.f5.length kz4]) (t := 28) ?hr ?_; (case hd => rfl); (case hg => rfl); (case hr => first | (go_simp; done) | (go_simp; rfl)); intro g5 hg w2 hbox hb; have N_g3_g5 := k_ (nwN hg H3.out); have N_g5_g3 := k_ (Ne.symm N_g3_g5.out); have G_g5 := k_ (nwG hg HB.out); replace HB := k_ (below_step HB.out hb); replace H3 := k_ (blk_below H3.out hb); have H5 := k_ hbox; clear hg hbox hb; have r11 := blk8 H3.out) | (go_at_call 4; clear mk1_; refine (laws_szTerm.calls KS x0.f0 x0.f1 x0.f2 x0.f3.f0 _ _ x0.f3.f1 _ _ x0.f3.f2 _ _ x0.f4 _ _ x0.f5 1048576 l1 _ (Kd.C_below X1.out.1 HB.out) X1.out.2 (Kd.C_below X2.out.1 HB.out) X2.out.2 (Kd.C_below X3.out.1 HB.out) X3.out.2 (Kd.C_below X4.out.1 HB.out) X4.out.2 HS0.out).mono ?_; rintro e w3 ⟨rfl, hb⟩; replace HB := k_ (below_step HB.out hb); replace H3 := k_ (blk_below H3.out hb); replace H5 := k_ (blk_below H5.out hb); clear hb; have r12 := blk8 H5.out) | (go_at_call 4; clear mk2_; refine (laws_szTerm.calls KZ x2.f0 x2.f1 x2.f2 x2.f3.f0 _ _ x2.f3.f1 _ _ x2.f3.f2 _ _ x2.f4 _ _ x2.f5 l1 l2 _ (Kd.C_below Z1.out.1 HB.out) Z1.out.2 (Kd.C_below Z2.out.1 HB.out) Z2.out.2 (Kd.C_below Z3.out.1 HB.out) Z3.out.2 (Kd.C_below Z4.out.1 HB.out) Z4.out.2 HS2.out).mono ?_; rintro e w4 ⟨rfl, hb⟩; replace HB := k_ (below_step HB.out hb); replace H3 := k_ (blk_below H3.out hb); replace H5 := k_ (blk_below H5.out hb); clear hb))
    go_ret
    exact ⟨rfl, HB.out⟩
   have C3 := k_ c3
   have c3a : decide (l2 < 0) = false := decide_eq_false c3
   clear c3
   have HLF := k_ (cut_facts (wtTerm x2) l1 (by have := HLE.out; omega) (by have := C3.out; rw [HL2.out] at this; omega))
   rw [← HL2.out] at HLF
   obtain ⟨x, hx_⟩ : ∃ x, x = cvTerm x0 := ⟨_, rfl⟩
   obtain ⟨z, hz_⟩ : ∃ z, z = cvTerm x2 := ⟨_, rfl⟩
   have SM := k_ (show SmTerm x by rw [hx_]; exact smTerm_of x0 hW0 (by have := HLE.out; omega)); have SZ := k_ (show SmTerm z by rw [hz_]; exact smTerm_of x2 hW2 (by have := HLE.out; have := HLF.out; omega))
   obtain ⟨KT, hKT⟩ := toTerm_ev x0 (by have := HLE.out; omega)
   rw [← hx_] at hKT
   have HT0 := k_ (hKT KT (Nat.le_refl _))
   clear hKT
   obtain ⟨KU, hKU⟩ := toTerm_ev x2 (by have := HLE.out; have := HLF.out; omega)
   rw [← hz_] at hKU
   have HT2 := k_ (hKU KU (Nat.le_refl _))
   clear hKU
   have NN := k_ (show ndTerm x + ndTerm z ≤ 1048578 by have e1 := ndTerm_cv x0; have e2 := ndTerm_cv x2; rw [← hx_] at e1; rw [← hz_] at e2; have := HLE.out; have := HLF.out; omega)
   have CX := k_ (show cnTerm x ≤ 4194308 by have e1 := cnTerm_cv x0; rw [← hx_] at e1; have := HLE.out; omega); have CZ := k_ (show cnTerm z ≤ 4194308 by have e1 := cnTerm_cv x2; rw [← hz_] at e1; have := HLE.out; have := HLF.out; omega)
   clear hx_ hz_
   obtain ⟨res, hr_⟩ : ∃ r, r = subF (ndTerm x) x nm z := ⟨_, rfl⟩
   have HR_ := k_ hr_
   have SR := k_ (show SmTerm res by rw [hr_]; exact sm_subF _ x nm z SM.out SZ.out (by have := NN.out; omega))
   have CR := k_ (show cnTop res ≤ 4611686018427386000 by rw [hr_]; exact cnTop_sub _ x nm z CX.out CZ.out)
   clear hr_
   obtain ⟨KX, h_⟩ := eqTerm_ev x SM.out
   have HEX := k_ (h_ KX (Nat.le_refl _))
   clear h_
   obtain ⟨KY, h_⟩ := eqTerm_ev z SZ.out
   have HEZ := k_ (h_ KY (Nat.le_refl _))
   clear h_
   obtain ⟨KR, h_⟩ := eqTerm_ev res SR.out
   have HER := k_ (h_ KR (Nat.le_refl _))
   clear h_
   obtain ⟨y, hy_⟩ : ∃ y, y = mkTop res 1 := ⟨_, rfl⟩
   obtain ⟨cv, hcv_⟩ : ∃ c : Int, c = 1 + (cnTop res : Int) := ⟨_, rfl⟩
   have HCV := k_ hcv_
   have cva : decide (cv < 0) = false := decide_eq_false (by omega)
   have cvb : (cv != cv) = false := by simp
   obtain ⟨KH, h_⟩ := heldTerm_top res SR.out 1 (by omega) (by have := CR.out; omega)
   rw [← hy_] at h_
   have HYE := k_ hy_
   have HH := k_ (show laws_heldTerm.f KH res.f0 res.f1 res.f2 res.f3.f0 y.f3.f1 y.f3.f2 y.f4 y.f5 1 = some cv by have h2_ := h_ KH (Nat.le_refl _); rw [hcv_]; rw [hy_] at h2_ ⊢; exact h2_)
   clear h_ hy_ hcv_
   go_enter Tryd.func3, Tryd.ntmps3
   go_wp2_with (first | ((with_reducible refine gate_dst (N := 3) rfl ?_); refine box_event ?hg (N := 3) ?hd (cs := #[.int .i64 x0.f0, .string x0.f1, .int .i64 x0.f2, .int .i64 x0.f3.f0, .slice A1 x0.f3.f1.length c1, .slice A2 x0.f3.f2.length c2, .slice A3 x0.f4.length c3, .slice A4 x0.f5.length c4]) (t := 28) ?hr ?_; (case hd => rfl); (case hg => rfl); (case hr => first | (go_simp; done) | (go_simp; rfl)); intro g3 hg w1 hbox hb; have G_g3 := k_ (nwG hg HB.out); replace HB := k_ (below_step HB.out hb); have H3 := k_ hbox; clear hg hbox hb) | ((with_reducible refine gate_dst (N := 5) rfl ?_); refine box_event ?hg (N := 5) ?hd (cs := #[.int .i64 x2.f0, .string x2.f1, .int .i64 x2.f2, .int .i64 x2.f3.f0, .slice D1 x2.f3.f1.length kz1, .slice D2 x2.f3.f2.length kz2, .slice D3 x2.f4.length kz3, .slice D4 x2.f5.length kz4]) (t := 28) ?hr ?_; (case hd => rfl); (case hg => rfl); (case hr => first | (go_simp; done) | (go_simp; rfl)); intro g5 hg w2 hbox hb; have N_g3_g5 := k_ (nwN hg H3.out); have N_g5_g3 := k_ (Ne.symm N_g3_g5.out); have G_g5 := k_ (nwG hg HB.out); replace HB := k_ (below_step HB.out hb); replace H3 := k_ (blk_below H3.out hb); have H5 := k_ hbox; clear hg hbox hb; have r11 := blk8 H3.out) | (go_at_call 4; clear mk1_; refine (laws_szTerm.calls KS x0.f0 x0.f1 x0.f2 x0.f3.f0 _ _ x0.f3.f1 _ _ x0.f3.f2 _ _ x0.f4 _ _ x0.f5 1048576 l1 _ (Kd.C_below X1.out.1 HB.out) X1.out.2 (Kd.C_below X2.out.1 HB.out) X2.out.2 (Kd.C_below X3.out.1 HB.out) X3.out.2 (Kd.C_below X4.out.1 HB.out) X4.out.2 HS0.out).mono ?_; rintro e w3 ⟨rfl, hb⟩; replace HB := k_ (below_step HB.out hb); replace H3 := k_ (blk_below H3.out hb); replace H5 := k_ (blk_below H5.out hb); clear hb; have r12 := blk8 H5.out) | (go_at_call 4; clear mk2_; refine (laws_szTerm.calls KZ x2.f0 x2.f1 x2.f2 x2.f3.f0 _ _ x2.f3.f1 _ _ x2.f3.f2 _ _ x2.f4 _ _ x2.f5 l1 l2 _ (Kd.C_below Z1.out.1 HB.out) Z1.out.2 (Kd.C_below Z2.out.1 HB.out) Z2.out.2 (Kd.C_below Z3.out.1 HB.out) Z3.out.2 (Kd.C_below Z4.out.1 HB.out) Z4.out.2 HS2.out).mono ?_; rintro e w4 ⟨rfl, hb⟩; replace HB := k_ (below_step HB.out hb); replace H3 := k_ (blk_below H3.out hb); replace H5 := k_ (blk_below H5.out hb); clear hb))
   replace HB := k_ (below_drew1 HB.out)
   replace H3 := k_ (blk_drew H3.out)
   replace H5 := k_ (blk_drew H5.out)
   refine start_ (n := 8) (S := fun w' => (w'.heap[g3]? = some (.cells #[.int .i64 x0.f0, .string x0.f1, .int .i64 x0.f2, .int .i64 x0.f3.f0, .slice A1 x0.f3.f1.length c1, .slice A2 x0.f3.f2.length c2, .slice A3 x0.f4.length c3, .slice A4 x0.f5.length c4] 28 (0, 0))) ∧ (w'.heap[g5]? = some (.cells #[.int .i64 x2.f0, .string x2.f1, .int .i64 x2.f2, .int .i64 x2.f3.f0, .slice D1 x2.f3.f1.length kz1, .slice D2 x2.f3.f2.length kz2, .slice D3 x2.f4.length kz3, .slice D4 x2.f5.length kz4] 28 (0, 0)))) (ds := []) mWSub0 (by kernel_rfl) rfl rfl ⟨H3.out, H5.out⟩ (fun hHeld => ?_); refine with_tabW tabL.tab10 tabL.bits10 (fun HT_ HW_ => ?_)
   generalize w4.drew = w5 at HB H3 H5 hHeld ⊢
   refine take_ (i := 0) (N := some 29) (v := ?_) (a' := ?_) mWSub1 rfl rfl (take_ofW HT_.out HW_.out (by kernel_rfl)) (fun _ _ _ h => h) (Or.inl ⟨by rfl, ?_⟩) hHeld ?_ ?_
   rotate_left
   ·rintro w' ⟨s0, s1⟩
    have q0 := blk8 s0
    have q1 := blk8 s1
    go_simp
    with_reducible rfl
   rotate_left
   ·simp only [Act.put, sP]
    rfl
   refine take_ (i := 3) (N := some 32) (v := ?_) (a' := ?_) mWSub2 rfl rfl (take_ofW HT_.out HW_.out (by kernel_rfl)) (fun _ _ _ h => h) (Or.inl ⟨by rfl, ?_⟩) hHeld ?_ ?_
   rotate_left
   ·rintro w' ⟨s0, s1⟩
    have q0 := blk8 s0
    have q1 := blk8 s1
    go_simp
    with_reducible rfl
   rotate_left
   ·simp only [Act.put, sP]
    rfl
   refine pure_ (i := 2) (N := some 31) (v := ?_) (a' := ?_) mWSub3 rfl rfl (any_of HT_.out (by kernel_rfl)) (fun _ _ _ h => h) (Or.inl ⟨by rfl, ?_⟩) ?_ ?_
   rotate_left
   ·intro w'
    go_simp
    try with_reducible rfl
   rotate_left
   ·simp only [Act.put, sP]
    rfl
   refine join_ (σ := Value × Value × Value × Value × Value × Value × List HT × List HT × Nat) 1 mWSub10 (fun s_ => [(30, s_.1), (33, s_.2.1), (34, .agg #[.int .i64 res.f0, .string res.f1, .int .i64 res.f2, .int .i64 res.f3.f0, s_.2.2.1, s_.2.2.2.1, s_.2.2.2.2.1, s_.2.2.2.2.2.1]), (8, .pointer (some ⟨s_.2.2.2.2.2.2.2.2, 0, none⟩))]) (fun s_ w' => ((w'.heap[g3]? = some (.cells #[.int .i64 x0.f0, .string x0.f1, .int .i64 x0.f2, .int .i64 x0.f3.f0, .slice A1 x0.f3.f1.length c1, .slice A2 x0.f3.f2.length c2, .slice A3 x0.f4.length c3, .slice A4 x0.f5.length c4] 28 (0, 0))) ∧ (w'.heap[g5]? = some (.cells #[.int .i64 x2.f0, .string x2.f1, .int .i64 x2.f2, .int .i64 x2.f3.f0, .slice D1 x2.f3.f1.length kz1, .slice D2 x2.f3.f2.length kz2, .slice D3 x2.f4.length kz3, .slice D4 x2.f5.length kz4] 28 (0, 0)))) ∧ Apt w' w.heap.size [strR s_.2.2.1 res.f3.f1, .row 32 3 res.f3.f2.length s_.2.2.2.1 s_.2.2.2.2.2.2.1, strR s_.2.2.2.2.1 res.f4, .row 35 8 res.f5.length s_.2.2.2.2.2.1 s_.2.2.2.2.2.2.2.1] ∧ (∀ b ∈ blS [strR s_.2.2.1 res.f3.f1, .row 32 3 res.f3.f2.length s_.2.2.2.1 s_.2.2.2.2.2.2.1, strR s_.2.2.2.2.1 res.f4, .row 35 8 res.f5.length s_.2.2.2.2.2.1 s_.2.2.2.2.2.2.2.1], b ≠ s_.2.2.2.2.2.2.2.2) ∧ TyES res.f3.f2 s_.2.2.2.2.2.2.1 ∧ TeES res.f5 s_.2.2.2.2.2.2.2.1 ∧ (Below w.heap.size w w') ∧ (w'.heap[g3]? = some (.cells #[.int .i64 x0.f0, .string x0.f1, .int .i64 x0.f2, .int .i64 x0.f3.f0, .slice A1 x0.f3.f1.length c1, .slice A2 x0.f3.f2.length c2, .slice A3 x0.f4.length c3, .slice A4 x0.f5.length c4] 28 (0, 0))) ∧ (w'.heap[g5]? = some (.cells #[.int .i64 x2.f0, .string x2.f1, .int .i64 x2.f2, .int .i64 x2.f3.f0, .slice D1 x2.f3.f1.length kz1, .slice D2 x2.f3.f2.length kz2, .slice D3 x2.f4.length kz3, .slice D4 x2.f5.length kz4] 28 (0, 0))) ∧ w'.heap[s_.2.2.2.2.2.2.2.2]? = some (.cells #[.int .i64 0, .string ⟨#[]⟩, .int .i64 0, .int .i64 0, .slice none 0 0, .slice none 0 0, .slice none 0 0, .slice none 0 0] 35 (0, 0)) ∧ w.heap.size ≤ s_.2.2.2.2.2.2.2.2 ∧ g3 ≠ s_.2.2.2.2.2.2.2.2 ∧ g5 ≠ s_.2.2.2.2.2.2.2.2) ?_ ?_
   rotate_left
   ·intro hCont
    refine two_ (i := 1) (j := 6) (Ni := some 30) (Nj := some 8) mWSub4 mWSub5 rfl rfl rfl rfl (two_of HT_.out (by kernel_rfl)) (by decide) (by decide) (fun K hK => ?_) (fun K hK => ?_)
    ·refine goes_ Tryd.func6 (by kernel_rfl) rfl #[.agg #[.int .i64 x0.f0, .string x0.f1, .int .i64 x0.f2, .int .i64 x0.f3.f0, .slice A1 x0.f3.f1.length c1, .slice A2 x0.f3.f2.length c2, .slice A3 x0.f4.length c3, .slice A4 x0.f5.length c4]] (by rfl) rfl rfl (by (try simp only [List.map_toArray, List.map_cons, List.map_nil]); first | done | rfl) ?_
     refine (laws_toTerm.calls KT x0.f0 x0.f1 x0.f2 x0.f3.f0 _ _ x0.f3.f1 _ _ x0.f3.f2 _ _ x0.f4 _ _ x0.f5 x.f0 x.f1 x.f2 x.f3.f0 x.f3.f1 x.f3.f2 x.f4 x.f5 _ (Kd.C_below X1.out.1 HB.out) X1.out.2 (Kd.C_below X2.out.1 HB.out) X2.out.2 (Kd.C_below X3.out.1 HB.out) X3.out.2 (Kd.C_below X4.out.1 HB.out) X4.out.2 HT0.out).mono ?_
     rintro e w6 ⟨v4, v5, v6, v7, rfl, o4, o5, o6, o7, hb⟩
     obtain ⟨a4_, ac4_, rfl⟩ := Kd.R_slice o4
     obtain ⟨a5_, ac5_, rfl⟩ := Kd.R_slice o5
     obtain ⟨a6_, ac6_, rfl⟩ := Kd.R_slice o6
     obtain ⟨a7_, ac7_, rfl⟩ := Kd.R_slice o7
     refine ⟨.agg #[.int .i64 x.f0, .string x.f1, .int .i64 x.f2, .int .i64 x.f3.f0, .slice a4_ x.f3.f1.length ac4_, .slice a5_ x.f3.f2.length ac5_, .slice a6_ x.f4.length ac6_, .slice a7_ x.f5.length ac7_], rfl, ?_⟩
     replace HB := k_ (below_step HB.out hb)
     replace H3 := k_ (blk_below H3.out hb)
     replace H5 := k_ (blk_below H5.out hb)
     have E1 := k_ (And.intro (Kd.R_reads' o4).2.2 (Kd.R_reads' o4).2.1)
     have E2 := k_ (And.intro (Kd.R_reads' o5).2.2 (Kd.R_reads' o5).2.1)
     have E3 := k_ (And.intro (Kd.R_reads' o6).2.2 (Kd.R_reads' o6).2.1)
     have E4 := k_ (And.intro (Kd.R_reads' o7).2.2 (Kd.R_reads' o7).2.1)
     clear o4 o5 o6 o7 hb
     refine hK.out _ _ ⟨H3.out, H5.out⟩ (fun hHeld => ?_)
     clear hK K
     refine norm_ (a' := ?_) ?_ ?_
     rotate_left
     ·show Act.put _ (some 30) _ = _
      simp only [Act.put, sP]
      rfl
     refine two_ (i := 4) (j := 6) (Ni := some 33) (Nj := some 8) mWSub7 mWSub6 rfl rfl rfl rfl (two_of HT_.out (by kernel_rfl)) (by decide) (by decide) (fun K hK => ?_) (fun K hK => ?_)
     ·refine goes_ Tryd.func6 (by kernel_rfl) rfl #[.agg #[.int .i64 x2.f0, .string x2.f1, .int .i64 x2.f2, .int .i64 x2.f3.f0, .slice D1 x2.f3.f1.length kz1, .slice D2 x2.f3.f2.length kz2, .slice D3 x2.f4.length kz3, .slice D4 x2.f5.length kz4]] (by rfl) rfl rfl (by (try simp only [List.map_toArray, List.map_cons, List.map_nil]); first | done | rfl) ?_
      refine (laws_toTerm.calls KU x2.f0 x2.f1 x2.f2 x2.f3.f0 _ _ x2.f3.f1 _ _ x2.f3.f2 _ _ x2.f4 _ _ x2.f5 z.f0 z.f1 z.f2 z.f3.f0 z.f3.f1 z.f3.f2 z.f4 z.f5 _ (Kd.C_below Z1.out.1 HB.out) Z1.out.2 (Kd.C_below Z2.out.1 HB.out) Z2.out.2 (Kd.C_below Z3.out.1 HB.out) Z3.out.2 (Kd.C_below Z4.out.1 HB.out) Z4.out.2 HT2.out).mono ?_
      rintro e w7 ⟨v4, v5, v6, v7, rfl, o4, o5, o6, o7, hb⟩
      obtain ⟨e4_, ec4_, rfl⟩ := Kd.R_slice o4
      obtain ⟨e5_, ec5_, rfl⟩ := Kd.R_slice o5
      obtain ⟨e6_, ec6_, rfl⟩ := Kd.R_slice o6
      obtain ⟨e7_, ec7_, rfl⟩ := Kd.R_slice o7
      refine ⟨.agg #[.int .i64 z.f0, .string z.f1, .int .i64 z.f2, .int .i64 z.f3.f0, .slice e4_ z.f3.f1.length ec4_, .slice e5_ z.f3.f2.length ec5_, .slice e6_ z.f4.length ec6_, .slice e7_ z.f5.length ec7_], rfl, ?_⟩
      replace HB := k_ (below_step HB.out hb)
      replace H3 := k_ (blk_below H3.out hb)
      replace H5 := k_ (blk_below H5.out hb)
      replace E1 := k_ (And.intro (Kd.C_below E1.out.1 hb) E1.out.2)
      replace E2 := k_ (And.intro (Kd.C_below E2.out.1 hb) E2.out.2)
      replace E3 := k_ (And.intro (Kd.C_below E3.out.1 hb) E3.out.2)
      replace E4 := k_ (And.intro (Kd.C_below E4.out.1 hb) E4.out.2)
      have F1 := k_ (And.intro (Kd.R_reads' o4).2.2 (Kd.R_reads' o4).2.1)
      have F2 := k_ (And.intro (Kd.R_reads' o5).2.2 (Kd.R_reads' o5).2.1)
      have F3 := k_ (And.intro (Kd.R_reads' o6).2.2 (Kd.R_reads' o6).2.1)
      have F4 := k_ (And.intro (Kd.R_reads' o7).2.2 (Kd.R_reads' o7).2.1)
      clear o4 o5 o6 o7 hb
      refine hK.out _ _ ⟨H3.out, H5.out⟩ (fun hHeld => ?_)
      clear hK K
      refine norm_ (a' := ?_) ?_ ?_
      rotate_left
      ·show Act.put _ (some 33) _ = _
       simp only [Act.put, sP]
       rfl
      refine two_ (i := 5) (j := 6) (Ni := some 34) (Nj := some 8) mWSub9 mWSub8 rfl rfl rfl rfl (two_of HT_.out (by kernel_rfl)) (by decide) (by decide) (fun K hK => ?_) (fun K hK => ?_)
      ·refine goes_ Tryd.func5 (by kernel_rfl) rfl #[.agg #[.int .i64 x.f0, .string x.f1, .int .i64 x.f2, .int .i64 x.f3.f0, .slice a4_ x.f3.f1.length ac4_, .slice a5_ x.f3.f2.length ac5_, .slice a6_ x.f4.length ac6_, .slice a7_ x.f5.length ac7_], .string nm, .agg #[.int .i64 z.f0, .string z.f1, .int .i64 z.f2, .int .i64 z.f3.f0, .slice e4_ z.f3.f1.length ec4_, .slice e5_ z.f3.f2.length ec5_, .slice e6_ z.f4.length ec6_, .slice e7_ z.f5.length ec7_]] (by rfl) rfl rfl (by (try simp only [List.map_toArray, List.map_cons, List.map_nil]); first | done | rfl) ?_
       refine (specSubst_st (ndTerm x) x nm z SM.out SZ.out (Nat.le_refl _) NN.out a4_ ac4_ a5_ ac5_ a6_ ac6_ a7_ ac7_ e4_ ec4_ e5_ ec5_ e6_ ec6_ e7_ ec7_ _ E1.out E2.out E3.out E4.out F1.out F2.out F3.out F4.out).mono ?_
       rintro e w8 ⟨hs, rfl, hE, hA, hb⟩
       rw [← HR_.out] at hE
       obtain ⟨P1T8, q1T8, P2T8, q2T8, P3T8, q3T8, P4T8, q4T8, usT8, dsT8, rfl, hus, hds⟩ := TeE_open hE hA
       refine ⟨.agg #[.int .i64 res.f0, .string res.f1, .int .i64 res.f2, .int .i64 res.f3.f0, .slice P1T8 res.f3.f1.length q1T8, .slice P2T8 res.f3.f2.length q2T8, .slice P3T8 res.f4.length q3T8, .slice P4T8 res.f5.length q4T8], rfl, ?_⟩
       have tl_ := Apt_tl (Apt_tl (Apt_tl (Apt_tl hA)))
       have D_T8_g3 := k_ (Apt_ge tl_ (blk_lt H3.out))
       have D_T8_g5 := k_ (Apt_ge tl_ (blk_lt H5.out))
       have T81_ := k_ (Apt_lower tl_ (below_size HB.out)); have HU_ := k_ hus; have HD_ := k_ hds
       clear E1 E2 E3 E4 F1 F2 F3 F4
       replace HB := k_ (below_step HB.out hb)
       replace H3 := k_ (blk_below H3.out hb)
       replace H5 := k_ (blk_below H5.out hb)
       have T8 := T81_
       clear T81_ tl_ hA hE hus hds hb
       refine hK.out _ _ ⟨H3.out, H5.out⟩ (fun hHeld => ?_)
       clear hK K
       refine norm_ (a' := ?_) ?_ ?_
       rotate_left
       ·show Act.put _ (some 34) _ = _
        simp only [Act.put, sP]
        rfl
       refine one_ (i := 6) (N := some 8) mWSub10 rfl rfl (one_of HT_.out (by kernel_rfl)) (by decide) (fun K hK => ?_)
       refine box_step ?hg (N := 8) ?hd (cs := #[.int .i64 0, .string ⟨#[]⟩, .int .i64 0, .int .i64 0, .slice none 0 0, .slice none 0 0, .slice none 0 0, .slice none 0 0]) (t := 35) ?hr ?_; (case hd => rfl); (case hg => rfl); (case hr => first | (go_simp; done) | (go_simp; rfl))
       intro g8 hg w9 hbox hb
       have N_g3_g8 := k_ (nwN hg H3.out)
       have N_g8_g3 := k_ (Ne.symm N_g3_g8.out)
       have N_g5_g8 := k_ (nwN hg H5.out)
       have N_g8_g5 := k_ (Ne.symm N_g5_g8.out)
       have D_T8_g8 := k_ (nwD hg T8.out)
       have G_g8 := k_ (nwG hg HB.out)
       replace HB := k_ (below_step HB.out hb)
       replace H3 := k_ (blk_below H3.out hb)
       replace H5 := k_ (blk_below H5.out hb)
       replace T8 := k_ (Apt_below T8.out hb)
       have H8 := k_ hbox
       clear hg hbox hb
       refine hK.out _ _ ⟨H3.out, H5.out⟩ (fun hHeld => ?_)
       clear hK K
       refine norm_ (a' := ?_) ?_ ?_
       rotate_left
       ·show Act.put _ (some 8) _ = _
        simp only [Act.put, sP]
        rfl
       exact norm_ (by simp only [putAll, Act.put, sP]) (hCont (.agg #[.int .i64 x.f0, .string x.f1, .int .i64 x.f2, .int .i64 x.f3.f0, .slice a4_ x.f3.f1.length ac4_, .slice a5_ x.f3.f2.length ac5_, .slice a6_ x.f4.length ac6_, .slice a7_ x.f5.length ac7_], .agg #[.int .i64 z.f0, .string z.f1, .int .i64 z.f2, .int .i64 z.f3.f0, .slice e4_ z.f3.f1.length ec4_, .slice e5_ z.f3.f2.length ec5_, .slice e6_ z.f4.length ec6_, .slice e7_ z.f5.length ec7_], (.slice P1T8 res.f3.f1.length q1T8), (.slice P2T8 res.f3.f2.length q2T8), (.slice P3T8 res.f4.length q3T8), (.slice P4T8 res.f5.length q4T8), usT8, dsT8, g8) _ ⟨hHeld, T8.out, D_T8_g8.out, HU_.out, HD_.out, HB.out, H3.out, H5.out, H8.out, G_g8.out, N_g3_g8.out, N_g5_g8.out⟩)
      ·refine box_step ?hg (N := 8) ?hd (cs := #[.int .i64 0, .string ⟨#[]⟩, .int .i64 0, .int .i64 0, .slice none 0 0, .slice none 0 0, .slice none 0 0, .slice none 0 0]) (t := 35) ?hr ?_; (case hd => rfl); (case hg => rfl); (case hr => first | (go_simp; done) | (go_simp; rfl))
       intro g8 hg w8 hbox hb
       have N_g3_g8 := k_ (nwN hg H3.out)
       have N_g8_g3 := k_ (Ne.symm N_g3_g8.out)
       have N_g5_g8 := k_ (nwN hg H5.out)
       have N_g8_g5 := k_ (Ne.symm N_g5_g8.out)
       have G_g8 := k_ (nwG hg HB.out)
       replace HB := k_ (below_step HB.out hb)
       replace H3 := k_ (blk_below H3.out hb)
       replace H5 := k_ (blk_below H5.out hb)
       replace E1 := k_ (And.intro (Kd.C_below E1.out.1 hb) E1.out.2)
       replace E2 := k_ (And.intro (Kd.C_below E2.out.1 hb) E2.out.2)
       replace E3 := k_ (And.intro (Kd.C_below E3.out.1 hb) E3.out.2)
       replace E4 := k_ (And.intro (Kd.C_below E4.out.1 hb) E4.out.2)
       replace F1 := k_ (And.intro (Kd.C_below F1.out.1 hb) F1.out.2)
       replace F2 := k_ (And.intro (Kd.C_below F2.out.1 hb) F2.out.2)
       replace F3 := k_ (And.intro (Kd.C_below F3.out.1 hb) F3.out.2)
       replace F4 := k_ (And.intro (Kd.C_below F4.out.1 hb) F4.out.2)
       have H8 := k_ hbox
       clear hg hbox hb
       refine hK.out _ _ ⟨H3.out, H5.out⟩ (fun hHeld => ?_)
       clear hK K
       refine norm_ (a' := ?_) ?_ ?_
       rotate_left
       ·show Act.put _ (some 8) _ = _
        simp only [Act.put, sP]
        rfl
       refine one_ (i := 5) (N := some 34) mWSub10 rfl rfl (one_of HT_.out (by kernel_rfl)) (by decide) (fun K hK => ?_)
       refine goes_ Tryd.func5 (by kernel_rfl) rfl #[.agg #[.int .i64 x.f0, .string x.f1, .int .i64 x.f2, .int .i64 x.f3.f0, .slice a4_ x.f3.f1.length ac4_, .slice a5_ x.f3.f2.length ac5_, .slice a6_ x.f4.length ac6_, .slice a7_ x.f5.length ac7_], .string nm, .agg #[.int .i64 z.f0, .string z.f1, .int .i64 z.f2, .int .i64 z.f3.f0, .slice e4_ z.f3.f1.length ec4_, .slice e5_ z.f3.f2.length ec5_, .slice e6_ z.f4.length ec6_, .slice e7_ z.f5.length ec7_]] (by rfl) rfl rfl (by (try simp only [List.map_toArray, List.map_cons, List.map_nil]); first | done | rfl) ?_
       refine (specSubst_st (ndTerm x) x nm z SM.out SZ.out (Nat.le_refl _) NN.out a4_ ac4_ a5_ ac5_ a6_ ac6_ a7_ ac7_ e4_ ec4_ e5_ ec5_ e6_ ec6_ e7_ ec7_ _ E1.out E2.out E3.out E4.out F1.out F2.out F3.out F4.out).mono ?_
       rintro e w9 ⟨hs, rfl, hE, hA, hb⟩
       rw [← HR_.out] at hE
       obtain ⟨P1T8, q1T8, P2T8, q2T8, P3T8, q3T8, P4T8, q4T8, usT8, dsT8, rfl, hus, hds⟩ := TeE_open hE hA
       refine ⟨.agg #[.int .i64 res.f0, .string res.f1, .int .i64 res.f2, .int .i64 res.f3.f0, .slice P1T8 res.f3.f1.length q1T8, .slice P2T8 res.f3.f2.length q2T8, .slice P3T8 res.f4.length q3T8, .slice P4T8 res.f5.length q4T8], rfl, ?_⟩
       have tl_ := Apt_tl (Apt_tl (Apt_tl (Apt_tl hA)))
       have D_T8_g3 := k_ (Apt_ge tl_ (blk_lt H3.out))
       have D_T8_g5 := k_ (Apt_ge tl_ (blk_lt H5.out))
       have D_T8_g8 := k_ (Apt_ge tl_ (blk_lt H8.out))
       have T81_ := k_ (Apt_lower tl_ (below_size HB.out)); have HU_ := k_ hus; have HD_ := k_ hds
       clear E1 E2 E3 E4 F1 F2 F3 F4
       replace HB := k_ (below_step HB.out hb)
       replace H3 := k_ (blk_below H3.out hb)
       replace H5 := k_ (blk_below H5.out hb)
       replace H8 := k_ (blk_below H8.out hb)
       have T8 := T81_
       clear T81_ tl_ hA hE hus hds hb
       refine hK.out _ _ ⟨H3.out, H5.out⟩ (fun hHeld => ?_)
       clear hK K
       refine norm_ (a' := ?_) ?_ ?_
       rotate_left
       ·show Act.put _ (some 34) _ = _
        simp only [Act.put, sP]
        rfl
       exact norm_ (by simp only [putAll, Act.put, sP]) (hCont (.agg #[.int .i64 x.f0, .string x.f1, .int .i64 x.f2, .int .i64 x.f3.f0, .slice a4_ x.f3.f1.length ac4_, .slice a5_ x.f3.f2.length ac5_, .slice a6_ x.f4.length ac6_, .slice a7_ x.f5.length ac7_], .agg #[.int .i64 z.f0, .string z.f1, .int .i64 z.f2, .int .i64 z.f3.f0, .slice e4_ z.f3.f1.length ec4_, .slice e5_ z.f3.f2.length ec5_, .slice e6_ z.f4.length ec6_, .slice e7_ z.f5.length ec7_], (.slice P1T8 res.f3.f1.length q1T8), (.slice P2T8 res.f3.f2.length q2T8), (.slice P3T8 res.f4.length q3T8), (.slice P4T8 res.f5.length q4T8), usT8, dsT8, g8) _ ⟨hHeld, T8.out, D_T8_g8.out, HU_.out, HD_.out, HB.out, H3.out, H5.out, H8.out, G_g8.out, N_g3_g8.out, N_g5_g8.out⟩)
     ·refine box_step ?hg (N := 8) ?hd (cs := #[.int .i64 0, .string ⟨#[]⟩, .int .i64 0, .int .i64 0, .slice none 0 0, .slice none 0 0, .slice none 0 0, .slice none 0 0]) (t := 35) ?hr ?_; (case hd => rfl); (case hg => rfl); (case hr => first | (go_simp; done) | (go_simp; rfl))
      intro g8 hg w7 hbox hb
      have N_g3_g8 := k_ (nwN hg H3.out)
      have N_g8_g3 := k_ (Ne.symm N_g3_g8.out)
      have N_g5_g8 := k_ (nwN hg H5.out)
      have N_g8_g5 := k_ (Ne.symm N_g5_g8.out)
      have G_g8 := k_ (nwG hg HB.out)
      replace HB := k_ (below_step HB.out hb)
      replace H3 := k_ (blk_below H3.out hb)
      replace H5 := k_ (blk_below H5.out hb)
      replace E1 := k_ (And.intro (Kd.C_below E1.out.1 hb) E1.out.2)
      replace E2 := k_ (And.intro (Kd.C_below E2.out.1 hb) E2.out.2)
      replace E3 := k_ (And.intro (Kd.C_below E3.out.1 hb) E3.out.2)
      replace E4 := k_ (And.intro (Kd.C_below E4.out.1 hb) E4.out.2)
      have H8 := k_ hbox
      clear hg hbox hb
      refine hK.out _ _ ⟨H3.out, H5.out⟩ (fun hHeld => ?_)
      clear hK K
      refine norm_ (a' := ?_) ?_ ?_
      rotate_left
      ·show Act.put _ (some 8) _ = _
       simp only [Act.put, sP]
       rfl
      refine one_ (i := 4) (N := some 33) mWSub8 rfl rfl (one_of HT_.out (by kernel_rfl)) (by decide) (fun K hK => ?_)
      refine goes_ Tryd.func6 (by kernel_rfl) rfl #[.agg #[.int .i64 x2.f0, .string x2.f1, .int .i64 x2.f2, .int .i64 x2.f3.f0, .slice D1 x2.f3.f1.length kz1, .slice D2 x2.f3.f2.length kz2, .slice D3 x2.f4.length kz3, .slice D4 x2.f5.length kz4]] (by rfl) rfl rfl (by (try simp only [List.map_toArray, List.map_cons, List.map_nil]); first | done | rfl) ?_
      refine (laws_toTerm.calls KU x2.f0 x2.f1 x2.f2 x2.f3.f0 _ _ x2.f3.f1 _ _ x2.f3.f2 _ _ x2.f4 _ _ x2.f5 z.f0 z.f1 z.f2 z.f3.f0 z.f3.f1 z.f3.f2 z.f4 z.f5 _ (Kd.C_below Z1.out.1 HB.out) Z1.out.2 (Kd.C_below Z2.out.1 HB.out) Z2.out.2 (Kd.C_below Z3.out.1 HB.out) Z3.out.2 (Kd.C_below Z4.out.1 HB.out) Z4.out.2 HT2.out).mono ?_
      rintro e w8 ⟨v4, v5, v6, v7, rfl, o4, o5, o6, o7, hb⟩
      obtain ⟨e4_, ec4_, rfl⟩ := Kd.R_slice o4
      obtain ⟨e5_, ec5_, rfl⟩ := Kd.R_slice o5
      obtain ⟨e6_, ec6_, rfl⟩ := Kd.R_slice o6
      obtain ⟨e7_, ec7_, rfl⟩ := Kd.R_slice o7
      refine ⟨.agg #[.int .i64 z.f0, .string z.f1, .int .i64 z.f2, .int .i64 z.f3.f0, .slice e4_ z.f3.f1.length ec4_, .slice e5_ z.f3.f2.length ec5_, .slice e6_ z.f4.length ec6_, .slice e7_ z.f5.length ec7_], rfl, ?_⟩
      replace HB := k_ (below_step HB.out hb)
      replace H3 := k_ (blk_below H3.out hb)
      replace H5 := k_ (blk_below H5.out hb)
      replace E1 := k_ (And.intro (Kd.C_below E1.out.1 hb) E1.out.2)
      replace E2 := k_ (And.intro (Kd.C_below E2.out.1 hb) E2.out.2)
      replace E3 := k_ (And.intro (Kd.C_below E3.out.1 hb) E3.out.2)
      replace E4 := k_ (And.intro (Kd.C_below E4.out.1 hb) E4.out.2)
      replace H8 := k_ (blk_below H8.out hb)
      have F1 := k_ (And.intro (Kd.R_reads' o4).2.2 (Kd.R_reads' o4).2.1)
      have F2 := k_ (And.intro (Kd.R_reads' o5).2.2 (Kd.R_reads' o5).2.1)
      have F3 := k_ (And.intro (Kd.R_reads' o6).2.2 (Kd.R_reads' o6).2.1)
      have F4 := k_ (And.intro (Kd.R_reads' o7).2.2 (Kd.R_reads' o7).2.1)
      clear o4 o5 o6 o7 hb
      refine hK.out _ _ ⟨H3.out, H5.out⟩ (fun hHeld => ?_)
      clear hK K
      refine norm_ (a' := ?_) ?_ ?_
      rotate_left
      ·show Act.put _ (some 33) _ = _
       simp only [Act.put, sP]
       rfl
      refine one_ (i := 5) (N := some 34) mWSub10 rfl rfl (one_of HT_.out (by kernel_rfl)) (by decide) (fun K hK => ?_)
      refine goes_ Tryd.func5 (by kernel_rfl) rfl #[.agg #[.int .i64 x.f0, .string x.f1, .int .i64 x.f2, .int .i64 x.f3.f0, .slice a4_ x.f3.f1.length ac4_, .slice a5_ x.f3.f2.length ac5_, .slice a6_ x.f4.length ac6_, .slice a7_ x.f5.length ac7_], .string nm, .agg #[.int .i64 z.f0, .string z.f1, .int .i64 z.f2, .int .i64 z.f3.f0, .slice e4_ z.f3.f1.length ec4_, .slice e5_ z.f3.f2.length ec5_, .slice e6_ z.f4.length ec6_, .slice e7_ z.f5.length ec7_]] (by rfl) rfl rfl (by (try simp only [List.map_toArray, List.map_cons, List.map_nil]); first | done | rfl) ?_
      refine (specSubst_st (ndTerm x) x nm z SM.out SZ.out (Nat.le_refl _) NN.out a4_ ac4_ a5_ ac5_ a6_ ac6_ a7_ ac7_ e4_ ec4_ e5_ ec5_ e6_ ec6_ e7_ ec7_ _ E1.out E2.out E3.out E4.out F1.out F2.out F3.out F4.out).mono ?_
      rintro e w9 ⟨hs, rfl, hE, hA, hb⟩
      rw [← HR_.out] at hE
      obtain ⟨P1T8, q1T8, P2T8, q2T8, P3T8, q3T8, P4T8, q4T8, usT8, dsT8, rfl, hus, hds⟩ := TeE_open hE hA
      refine ⟨.agg #[.int .i64 res.f0, .string res.f1, .int .i64 res.f2, .int .i64 res.f3.f0, .slice P1T8 res.f3.f1.length q1T8, .slice P2T8 res.f3.f2.length q2T8, .slice P3T8 res.f4.length q3T8, .slice P4T8 res.f5.length q4T8], rfl, ?_⟩
      have tl_ := Apt_tl (Apt_tl (Apt_tl (Apt_tl hA)))
      have D_T8_g3 := k_ (Apt_ge tl_ (blk_lt H3.out))
      have D_T8_g5 := k_ (Apt_ge tl_ (blk_lt H5.out))
      have D_T8_g8 := k_ (Apt_ge tl_ (blk_lt H8.out))
      have T81_ := k_ (Apt_lower tl_ (below_size HB.out)); have HU_ := k_ hus; have HD_ := k_ hds
      clear E1 E2 E3 E4 F1 F2 F3 F4
      replace HB := k_ (below_step HB.out hb)
      replace H3 := k_ (blk_below H3.out hb)
      replace H5 := k_ (blk_below H5.out hb)
      replace H8 := k_ (blk_below H8.out hb)
      have T8 := T81_
      clear T81_ tl_ hA hE hus hds hb
      refine hK.out _ _ ⟨H3.out, H5.out⟩ (fun hHeld => ?_)
      clear hK K
      refine norm_ (a' := ?_) ?_ ?_
      rotate_left
      ·show Act.put _ (some 34) _ = _
       simp only [Act.put, sP]
       rfl
      exact norm_ (by simp only [putAll, Act.put, sP]) (hCont (.agg #[.int .i64 x.f0, .string x.f1, .int .i64 x.f2, .int .i64 x.f3.f0, .slice a4_ x.f3.f1.length ac4_, .slice a5_ x.f3.f2.length ac5_, .slice a6_ x.f4.length ac6_, .slice a7_ x.f5.length ac7_], .agg #[.int .i64 z.f0, .string z.f1, .int .i64 z.f2, .int .i64 z.f3.f0, .slice e4_ z.f3.f1.length ec4_, .slice e5_ z.f3.f2.length ec5_, .slice e6_ z.f4.length ec6_, .slice e7_ z.f5.length ec7_], (.slice P1T8 res.f3.f1.length q1T8), (.slice P2T8 res.f3.f2.length q2T8), (.slice P3T8 res.f4.length q3T8), (.slice P4T8 res.f5.length q4T8), usT8, dsT8, g8) _ ⟨hHeld, T8.out, D_T8_g8.out, HU_.out, HD_.out, HB.out, H3.out, H5.out, H8.out, G_g8.out, N_g3_g8.out, N_g5_g8.out⟩)
    ·refine box_step ?hg (N := 8) ?hd (cs := #[.int .i64 0, .string ⟨#[]⟩, .int .i64 0, .int .i64 0, .slice none 0 0, .slice none 0 0, .slice none 0 0, .slice none 0 0]) (t := 35) ?hr ?_; (case hd => rfl); (case hg => rfl); (case hr => first | (go_simp; done) | (go_simp; rfl))
     intro g8 hg w6 hbox hb
     have N_g3_g8 := k_ (nwN hg H3.out)
     have N_g8_g3 := k_ (Ne.symm N_g3_g8.out)
     have N_g5_g8 := k_ (nwN hg H5.out)
     have N_g8_g5 := k_ (Ne.symm N_g5_g8.out)
     have G_g8 := k_ (nwG hg HB.out)
     replace HB := k_ (below_step HB.out hb)
     replace H3 := k_ (blk_below H3.out hb)
     replace H5 := k_ (blk_below H5.out hb)
     have H8 := k_ hbox
     clear hg hbox hb
     refine hK.out _ _ ⟨H3.out, H5.out⟩ (fun hHeld => ?_)
     clear hK K
     refine norm_ (a' := ?_) ?_ ?_
     rotate_left
     ·show Act.put _ (some 8) _ = _
      simp only [Act.put, sP]
      rfl
     refine one_ (i := 1) (N := some 30) mWSub6 rfl rfl (one_of HT_.out (by kernel_rfl)) (by decide) (fun K hK => ?_)
     refine goes_ Tryd.func6 (by kernel_rfl) rfl #[.agg #[.int .i64 x0.f0, .string x0.f1, .int .i64 x0.f2, .int .i64 x0.f3.f0, .slice A1 x0.f3.f1.length c1, .slice A2 x0.f3.f2.length c2, .slice A3 x0.f4.length c3, .slice A4 x0.f5.length c4]] (by rfl) rfl rfl (by (try simp only [List.map_toArray, List.map_cons, List.map_nil]); first | done | rfl) ?_
     refine (laws_toTerm.calls KT x0.f0 x0.f1 x0.f2 x0.f3.f0 _ _ x0.f3.f1 _ _ x0.f3.f2 _ _ x0.f4 _ _ x0.f5 x.f0 x.f1 x.f2 x.f3.f0 x.f3.f1 x.f3.f2 x.f4 x.f5 _ (Kd.C_below X1.out.1 HB.out) X1.out.2 (Kd.C_below X2.out.1 HB.out) X2.out.2 (Kd.C_below X3.out.1 HB.out) X3.out.2 (Kd.C_below X4.out.1 HB.out) X4.out.2 HT0.out).mono ?_
     rintro e w7 ⟨v4, v5, v6, v7, rfl, o4, o5, o6, o7, hb⟩
     obtain ⟨a4_, ac4_, rfl⟩ := Kd.R_slice o4
     obtain ⟨a5_, ac5_, rfl⟩ := Kd.R_slice o5
     obtain ⟨a6_, ac6_, rfl⟩ := Kd.R_slice o6
     obtain ⟨a7_, ac7_, rfl⟩ := Kd.R_slice o7
     refine ⟨.agg #[.int .i64 x.f0, .string x.f1, .int .i64 x.f2, .int .i64 x.f3.f0, .slice a4_ x.f3.f1.length ac4_, .slice a5_ x.f3.f2.length ac5_, .slice a6_ x.f4.length ac6_, .slice a7_ x.f5.length ac7_], rfl, ?_⟩
     replace HB := k_ (below_step HB.out hb)
     replace H3 := k_ (blk_below H3.out hb)
     replace H5 := k_ (blk_below H5.out hb)
     replace H8 := k_ (blk_below H8.out hb)
     have E1 := k_ (And.intro (Kd.R_reads' o4).2.2 (Kd.R_reads' o4).2.1)
     have E2 := k_ (And.intro (Kd.R_reads' o5).2.2 (Kd.R_reads' o5).2.1)
     have E3 := k_ (And.intro (Kd.R_reads' o6).2.2 (Kd.R_reads' o6).2.1)
     have E4 := k_ (And.intro (Kd.R_reads' o7).2.2 (Kd.R_reads' o7).2.1)
     clear o4 o5 o6 o7 hb
     refine hK.out _ _ ⟨H3.out, H5.out⟩ (fun hHeld => ?_)
     clear hK K
     refine norm_ (a' := ?_) ?_ ?_
     rotate_left
     ·show Act.put _ (some 30) _ = _
      simp only [Act.put, sP]
      rfl
     refine one_ (i := 4) (N := some 33) mWSub8 rfl rfl (one_of HT_.out (by kernel_rfl)) (by decide) (fun K hK => ?_)
     refine goes_ Tryd.func6 (by kernel_rfl) rfl #[.agg #[.int .i64 x2.f0, .string x2.f1, .int .i64 x2.f2, .int .i64 x2.f3.f0, .slice D1 x2.f3.f1.length kz1, .slice D2 x2.f3.f2.length kz2, .slice D3 x2.f4.length kz3, .slice D4 x2.f5.length kz4]] (by rfl) rfl rfl (by (try simp only [List.map_toArray, List.map_cons, List.map_nil]); first | done | rfl) ?_
     refine (laws_toTerm.calls KU x2.f0 x2.f1 x2.f2 x2.f3.f0 _ _ x2.f3.f1 _ _ x2.f3.f2 _ _ x2.f4 _ _ x2.f5 z.f0 z.f1 z.f2 z.f3.f0 z.f3.f1 z.f3.f2 z.f4 z.f5 _ (Kd.C_below Z1.out.1 HB.out) Z1.out.2 (Kd.C_below Z2.out.1 HB.out) Z2.out.2 (Kd.C_below Z3.out.1 HB.out) Z3.out.2 (Kd.C_below Z4.out.1 HB.out) Z4.out.2 HT2.out).mono ?_
     rintro e w8 ⟨v4, v5, v6, v7, rfl, o4, o5, o6, o7, hb⟩
     obtain ⟨e4_, ec4_, rfl⟩ := Kd.R_slice o4
     obtain ⟨e5_, ec5_, rfl⟩ := Kd.R_slice o5
     obtain ⟨e6_, ec6_, rfl⟩ := Kd.R_slice o6
     obtain ⟨e7_, ec7_, rfl⟩ := Kd.R_slice o7
     refine ⟨.agg #[.int .i64 z.f0, .string z.f1, .int .i64 z.f2, .int .i64 z.f3.f0, .slice e4_ z.f3.f1.length ec4_, .slice e5_ z.f3.f2.length ec5_, .slice e6_ z.f4.length ec6_, .slice e7_ z.f5.length ec7_], rfl, ?_⟩
     replace HB := k_ (below_step HB.out hb)
     replace H3 := k_ (blk_below H3.out hb)
     replace H5 := k_ (blk_below H5.out hb)
     replace H8 := k_ (blk_below H8.out hb)
     replace E1 := k_ (And.intro (Kd.C_below E1.out.1 hb) E1.out.2)
     replace E2 := k_ (And.intro (Kd.C_below E2.out.1 hb) E2.out.2)
     replace E3 := k_ (And.intro (Kd.C_below E3.out.1 hb) E3.out.2)
     replace E4 := k_ (And.intro (Kd.C_below E4.out.1 hb) E4.out.2)
     have F1 := k_ (And.intro (Kd.R_reads' o4).2.2 (Kd.R_reads' o4).2.1)
     have F2 := k_ (And.intro (Kd.R_reads' o5).2.2 (Kd.R_reads' o5).2.1)
     have F3 := k_ (And.intro (Kd.R_reads' o6).2.2 (Kd.R_reads' o6).2.1)
     have F4 := k_ (And.intro (Kd.R_reads' o7).2.2 (Kd.R_reads' o7).2.1)
     clear o4 o5 o6 o7 hb
     refine hK.out _ _ ⟨H3.out, H5.out⟩ (fun hHeld => ?_)
     clear hK K
     refine norm_ (a' := ?_) ?_ ?_
     rotate_left
     ·show Act.put _ (some 33) _ = _
      simp only [Act.put, sP]
      rfl
     refine one_ (i := 5) (N := some 34) mWSub10 rfl rfl (one_of HT_.out (by kernel_rfl)) (by decide) (fun K hK => ?_)
     refine goes_ Tryd.func5 (by kernel_rfl) rfl #[.agg #[.int .i64 x.f0, .string x.f1, .int .i64 x.f2, .int .i64 x.f3.f0, .slice a4_ x.f3.f1.length ac4_, .slice a5_ x.f3.f2.length ac5_, .slice a6_ x.f4.length ac6_, .slice a7_ x.f5.length ac7_], .string nm, .agg #[.int .i64 z.f0, .string z.f1, .int .i64 z.f2, .int .i64 z.f3.f0, .slice e4_ z.f3.f1.length ec4_, .slice e5_ z.f3.f2.length ec5_, .slice e6_ z.f4.length ec6_, .slice e7_ z.f5.length ec7_]] (by rfl) rfl rfl (by (try simp only [List.map_toArray, List.map_cons, List.map_nil]); first | done | rfl) ?_
     refine (specSubst_st (ndTerm x) x nm z SM.out SZ.out (Nat.le_refl _) NN.out a4_ ac4_ a5_ ac5_ a6_ ac6_ a7_ ac7_ e4_ ec4_ e5_ ec5_ e6_ ec6_ e7_ ec7_ _ E1.out E2.out E3.out E4.out F1.out F2.out F3.out F4.out).mono ?_
     rintro e w9 ⟨hs, rfl, hE, hA, hb⟩
     rw [← HR_.out] at hE
     obtain ⟨P1T8, q1T8, P2T8, q2T8, P3T8, q3T8, P4T8, q4T8, usT8, dsT8, rfl, hus, hds⟩ := TeE_open hE hA
     refine ⟨.agg #[.int .i64 res.f0, .string res.f1, .int .i64 res.f2, .int .i64 res.f3.f0, .slice P1T8 res.f3.f1.length q1T8, .slice P2T8 res.f3.f2.length q2T8, .slice P3T8 res.f4.length q3T8, .slice P4T8 res.f5.length q4T8], rfl, ?_⟩
     have tl_ := Apt_tl (Apt_tl (Apt_tl (Apt_tl hA)))
     have D_T8_g3 := k_ (Apt_ge tl_ (blk_lt H3.out))
     have D_T8_g5 := k_ (Apt_ge tl_ (blk_lt H5.out))
     have D_T8_g8 := k_ (Apt_ge tl_ (blk_lt H8.out))
     have T81_ := k_ (Apt_lower tl_ (below_size HB.out)); have HU_ := k_ hus; have HD_ := k_ hds
     clear E1 E2 E3 E4 F1 F2 F3 F4
     replace HB := k_ (below_step HB.out hb)
     replace H3 := k_ (blk_below H3.out hb)
     replace H5 := k_ (blk_below H5.out hb)
     replace H8 := k_ (blk_below H8.out hb)
     have T8 := T81_
     clear T81_ tl_ hA hE hus hds hb
     refine hK.out _ _ ⟨H3.out, H5.out⟩ (fun hHeld => ?_)
     clear hK K
     refine norm_ (a' := ?_) ?_ ?_
     rotate_left
     ·show Act.put _ (some 34) _ = _
      simp only [Act.put, sP]
      rfl
     exact norm_ (by simp only [putAll, Act.put, sP]) (hCont (.agg #[.int .i64 x.f0, .string x.f1, .int .i64 x.f2, .int .i64 x.f3.f0, .slice a4_ x.f3.f1.length ac4_, .slice a5_ x.f3.f2.length ac5_, .slice a6_ x.f4.length ac6_, .slice a7_ x.f5.length ac7_], .agg #[.int .i64 z.f0, .string z.f1, .int .i64 z.f2, .int .i64 z.f3.f0, .slice e4_ z.f3.f1.length ec4_, .slice e5_ z.f3.f2.length ec5_, .slice e6_ z.f4.length ec6_, .slice e7_ z.f5.length ec7_], (.slice P1T8 res.f3.f1.length q1T8), (.slice P2T8 res.f3.f2.length q2T8), (.slice P3T8 res.f4.length q3T8), (.slice P4T8 res.f5.length q4T8), usT8, dsT8, g8) _ ⟨hHeld, T8.out, D_T8_g8.out, HU_.out, HD_.out, HB.out, H3.out, H5.out, H8.out, G_g8.out, N_g3_g8.out, N_g5_g8.out⟩)
   rintro ⟨v30, v33, v1, v2, v3, v4, usT8, dsT8, g8⟩ w11 ⟨hHeld, f0_, f1_, fu_, fd_, g0_, g1_, g2_, fb_, fg_, n0_, n1_⟩
   dsimp only at hHeld f0_ f1_ fu_ fd_ g0_ g1_ g2_ fb_ fg_ n0_ n1_ ⊢
   obtain ⟨P1T8, q1T8, rfl⟩ := str_slice (Apt_one (a := []) (b := [.row 32 3 res.f3.f2.length v2 usT8, strR v3 res.f4, .row 35 8 res.f5.length v4 dsT8]) f0_)
   obtain ⟨P2T8, q2T8, rfl⟩ := row_slice (Apt_one (a := [strR (.slice P1T8 res.f3.f1.length q1T8) res.f3.f1]) (b := [strR v3 res.f4, .row 35 8 res.f5.length v4 dsT8]) f0_)
   obtain ⟨P3T8, q3T8, rfl⟩ := str_slice (Apt_one (a := [strR (.slice P1T8 res.f3.f1.length q1T8) res.f3.f1, .row 32 3 res.f3.f2.length (.slice P2T8 res.f3.f2.length q2T8) usT8]) (b := [.row 35 8 res.f5.length v4 dsT8]) f0_)
   obtain ⟨P4T8, q4T8, rfl⟩ := row_slice (Apt_one (a := [strR (.slice P1T8 res.f3.f1.length q1T8) res.f3.f1, .row 32 3 res.f3.f2.length (.slice P2T8 res.f3.f2.length q2T8) usT8, strR (.slice P3T8 res.f4.length q3T8) res.f4]) (b := []) f0_)
   clear HB H3 H5
   have HB := k_ g0_
   have H3 := k_ g1_
   have H5 := k_ g2_
   have T8 := k_ f0_; have HUT8 := k_ fu_; have HDT8 := k_ fd_; have D_T8_g8 := k_ f1_; have H8 := k_ fb_; have G_g8 := k_ fg_
   have N_g3_g8 := k_ n0_; have N_g8_g3 := k_ (Ne.symm n0_)
   have N_g5_g8 := k_ n1_; have N_g8_g5 := k_ (Ne.symm n1_)
   clear f0_ f1_ fu_ fd_ g0_ g1_ g2_ fb_ fg_ n0_ n1_
   refine norm_ (a' := ?_) ?_ ?_
   rotate_left
   ·simp only [putAll, Act.put, sP]
    rfl
   refine one_ (i := 7) (N := none) mWSub11 rfl rfl (one_of HT_.out (by kernel_rfl)) (by decide) (fun K hK => ?_)
   have r601 := blk8 H8.out
   have z602 := blf8 H8.out
   refine skip_ (w1 := w11.setCells g8 0 [.int .i64 res.f0, .string res.f1, .int .i64 res.f2, .int .i64 res.f3.f0, .slice P1T8 res.f3.f1.length q1T8, .slice P2T8 res.f3.f2.length q2T8, .slice P3T8 res.f4.length q3T8, .slice P4T8 res.f5.length q4T8]) (by rfl) rfl (by go_simp; rfl) ?_
   obtain ⟨w12, hw⟩ : ∃ w_, w_ = w11.setCells g8 0 [.int .i64 res.f0, .string res.f1, .int .i64 res.f2, .int .i64 res.f3.f0, .slice P1T8 res.f3.f1.length q1T8, .slice P2T8 res.f3.f2.length q2T8, .slice P3T8 res.f4.length q3T8, .slice P4T8 res.f5.length q4T8] := ⟨_, rfl⟩
   rw [← hw]
   replace HB := k_ (bew hw HB.out G_g8.out)
   replace H3 := k_ (bfw hw H3.out N_g3_g8.out)
   replace H5 := k_ (bfw hw H5.out N_g5_g8.out)
   replace H8 := k_ (show w12.heap[g8]? = some (.cells #[.int .i64 res.f0, .string res.f1, .int .i64 res.f2, .int .i64 res.f3.f0, .slice P1T8 res.f3.f1.length q1T8, .slice P2T8 res.f3.f2.length q2T8, .slice P3T8 res.f4.length q3T8, .slice P4T8 res.f5.length q4T8] 35 (0, 0)) from bsw hw H8.out (by simp only [putA, sP, Nat.zero_add, Nat.reduceAdd]))
   replace T8 := k_ (apw hw T8.out D_T8_g8.out)
   clear hw
   refine hK.out _ _ ⟨H3.out, H5.out⟩ (fun hHeld => ?_)
   clear hK K
   refine done_ (done_of HT_.out (by kernel_rfl)) ?_
   clear HT_ HW_
   clear hHeld
   have mk3_ := True.intro; have mk4_ := True.intro; have mk5_ := True.intro; have mk6_ := True.intro
   have r603 := blk8 H3.out
   go_wp2_with (first | (go_at_call 6; clear mk3_; refine (laws_toTerm.calls KT x0.f0 x0.f1 x0.f2 x0.f3.f0 _ _ x0.f3.f1 _ _ x0.f3.f2 _ _ x0.f4 _ _ x0.f5 x.f0 x.f1 x.f2 x.f3.f0 x.f3.f1 x.f3.f2 x.f4 x.f5 _ (Kd.C_below X1.out.1 HB.out) X1.out.2 (Kd.C_below X2.out.1 HB.out) X2.out.2 (Kd.C_below X3.out.1 HB.out) X3.out.2 (Kd.C_below X4.out.1 HB.out) X4.out.2 HT0.out).mono ?_; rintro e w20 ⟨v4, v5, v6, v7, rfl, o4, o5, o6, o7, hb⟩; obtain ⟨an4_, anc4_, rfl⟩ := Kd.R_slice o4; obtain ⟨an5_, anc5_, rfl⟩ := Kd.R_slice o5; obtain ⟨an6_, anc6_, rfl⟩ := Kd.R_slice o6; obtain ⟨an7_, anc7_, rfl⟩ := Kd.R_slice o7; have LT9_g3 := k_ (blk_lt H3.out); have LT9_g5 := k_ (blk_lt H5.out); have LT9_g8 := k_ (blk_lt H8.out); have LT9_T8 := k_ (Apt_lt T8.out); have LW9 := k_ (show w.heap.size ≤ w12.heap.size from below_size HB.out); replace HB := k_ (below_step HB.out hb); replace H3 := k_ (blk_below H3.out hb); replace H5 := k_ (blk_below H5.out hb); replace H8 := k_ (blk_below H8.out hb); replace T8 := k_ (Apt_below T8.out hb); have C9_1 := k_ (And.intro (Kd.R_reads' o4).2.2 (Kd.R_reads' o4).2.1); have C9_2 := k_ (And.intro (Kd.R_reads' o5).2.2 (Kd.R_reads' o5).2.1); have C9_3 := k_ (And.intro (Kd.R_reads' o6).2.2 (Kd.R_reads' o6).2.1); have C9_4 := k_ (And.intro (Kd.R_reads' o7).2.2 (Kd.R_reads' o7).2.1); have SH9_1 := k_ (shL_at o4); have SH9_2 := k_ (shTS_at o5); have SH9_3 := k_ (shL_at o6); have SH9_4 := k_ (shES_at o7); have HB9 := k_ (Below.refl w20.heap.size w20); clear o4 o5 o6 o7 hb) | ((with_reducible refine gate_dst (N := 9) rfl ?_); refine box_event ?hg (N := 9) ?hd (cs := #[.int .i64 0, .string ⟨#[]⟩, .int .i64 0, .int .i64 0, .slice none 0 0, .slice none 0 0, .slice none 0 0, .slice none 0 0]) (t := 35) ?hr ?_; (case hd => rfl); (case hg => rfl); (case hr => first | (go_simp; done) | (go_simp; rfl)); intro g9 hg w21 hbox hb; have GE_HB9_g9 := k_ (nwG hg HB9.out); have N_g3_g9 := k_ (nwN hg H3.out); have N_g9_g3 := k_ (Ne.symm N_g3_g9.out); have N_g5_g9 := k_ (nwN hg H5.out); have N_g9_g5 := k_ (Ne.symm N_g5_g9.out); have N_g8_g9 := k_ (nwN hg H8.out); have N_g9_g8 := k_ (Ne.symm N_g8_g9.out); have D_T8_g9 := k_ (nwD hg T8.out); have G_g9 := k_ (nwG hg HB.out); replace HB := k_ (below_step HB.out hb); replace H3 := k_ (blk_below H3.out hb); replace H5 := k_ (blk_below H5.out hb); replace H8 := k_ (blk_below H8.out hb); replace T8 := k_ (Apt_below T8.out hb); replace HB9 := k_ (below_step HB9.out hb); have H9 := k_ hbox; clear hg hbox hb) | ((with_reducible refine gate_store (t := 35) (p := 9) rfl ?_); have r604 := blk8 H9.out; have z605 := blf8 H9.out; refine store_event (t := 35) (p := 9) (v := ?vo_606) (w1 := w21.setCells g9 0 [.int .i64 x.f0, .string x.f1, .int .i64 x.f2, .int .i64 x.f3.f0, .slice an4_ x.f3.f1.length anc4_, .slice an5_ x.f3.f2.length anc5_, .slice an6_ x.f4.length anc6_, .slice an7_ x.f5.length anc7_]) ?hg ?ho ?hn ?hr ?_; (case ho => rfl); (case hg => rfl); (case hn => rfl); (case hr => first | (go_simp; done) | (go_simp; rfl)); intro w22 hw; replace HB := k_ (bew hw HB.out G_g9.out); replace H3 := k_ (bfw hw H3.out N_g3_g9.out); replace H5 := k_ (bfw hw H5.out N_g5_g9.out); replace H8 := k_ (bfw hw H8.out N_g8_g9.out); replace T8 := k_ (apw hw T8.out D_T8_g9.out); replace HB9 := k_ (bew hw HB9.out GE_HB9_g9.out); replace H9 := k_ (show w22.heap[g9]? = some (.cells #[.int .i64 x.f0, .string x.f1, .int .i64 x.f2, .int .i64 x.f3.f0, .slice an4_ x.f3.f1.length anc4_, .slice an5_ x.f3.f2.length anc5_, .slice an6_ x.f4.length anc6_, .slice an7_ x.f5.length anc7_] 35 (0, 0)) from bsw hw H9.out (by simp only [putA, sP, Nat.zero_add, Nat.reduceAdd])); clear hw; have r607 := blk8 H5.out) | (go_at_call 6; clear mk4_; refine (laws_toTerm.calls KU x2.f0 x2.f1 x2.f2 x2.f3.f0 _ _ x2.f3.f1 _ _ x2.f3.f2 _ _ x2.f4 _ _ x2.f5 z.f0 z.f1 z.f2 z.f3.f0 z.f3.f1 z.f3.f2 z.f4 z.f5 _ (Kd.C_below Z1.out.1 HB.out) Z1.out.2 (Kd.C_below Z2.out.1 HB.out) Z2.out.2 (Kd.C_below Z3.out.1 HB.out) Z3.out.2 (Kd.C_below Z4.out.1 HB.out) Z4.out.2 HT2.out).mono ?_; rintro e w23 ⟨v4, v5, v6, v7, rfl, o4, o5, o6, o7, hb⟩; obtain ⟨en4_, enc4_, rfl⟩ := Kd.R_slice o4; obtain ⟨en5_, enc5_, rfl⟩ := Kd.R_slice o5; obtain ⟨en6_, enc6_, rfl⟩ := Kd.R_slice o6; obtain ⟨en7_, enc7_, rfl⟩ := Kd.R_slice o7; have LT10_g3 := k_ (blk_lt H3.out); have LT10_g5 := k_ (blk_lt H5.out); have LT10_g8 := k_ (blk_lt H8.out); have LT10_T8 := k_ (Apt_lt T8.out); have LT10_g9 := k_ (blk_lt H9.out); have LW10 := k_ (show w.heap.size ≤ w22.heap.size from below_size HB.out); replace HB := k_ (below_step HB.out hb); replace H3 := k_ (blk_below H3.out hb); replace H5 := k_ (blk_below H5.out hb); replace H8 := k_ (blk_below H8.out hb); replace T8 := k_ (Apt_below T8.out hb); replace HB9 := k_ (below_step HB9.out hb); replace H9 := k_ (blk_below H9.out hb); have C10_1 := k_ (And.intro (Kd.R_reads' o4).2.2 (Kd.R_reads' o4).2.1); have C10_2 := k_ (And.intro (Kd.R_reads' o5).2.2 (Kd.R_reads' o5).2.1); have C10_3 := k_ (And.intro (Kd.R_reads' o6).2.2 (Kd.R_reads' o6).2.1); have C10_4 := k_ (And.intro (Kd.R_reads' o7).2.2 (Kd.R_reads' o7).2.1); have SH10_1 := k_ (shL_at o4); have SH10_2 := k_ (shTS_at o5); have SH10_3 := k_ (shL_at o6); have SH10_4 := k_ (shES_at o7); have HB10 := k_ (Below.refl w23.heap.size w23); clear o4 o5 o6 o7 hb) | ((with_reducible refine gate_dst (N := 10) rfl ?_); refine box_event ?hg (N := 10) ?hd (cs := #[.int .i64 0, .string ⟨#[]⟩, .int .i64 0, .int .i64 0, .slice none 0 0, .slice none 0 0, .slice none 0 0, .slice none 0 0]) (t := 35) ?hr ?_; (case hd => rfl); (case hg => rfl); (case hr => first | (go_simp; done) | (go_simp; rfl)); intro g10 hg w24 hbox hb; have GE_HB9_g10 := k_ (nwG hg HB9.out); have GE_HB10_g10 := k_ (nwG hg HB10.out); have N_g3_g10 := k_ (nwN hg H3.out); have N_g10_g3 := k_ (Ne.symm N_g3_g10.out); have N_g5_g10 := k_ (nwN hg H5.out); have N_g10_g5 := k_ (Ne.symm N_g5_g10.out); have N_g8_g10 := k_ (nwN hg H8.out); have N_g10_g8 := k_ (Ne.symm N_g8_g10.out); have D_T8_g10 := k_ (nwD hg T8.out); have N_g9_g10 := k_ (nwN hg H9.out); have N_g10_g9 := k_ (Ne.symm N_g9_g10.out); have G_g10 := k_ (nwG hg HB.out); replace HB := k_ (below_step HB.out hb); replace H3 := k_ (blk_below H3.out hb); replace H5 := k_ (blk_below H5.out hb); replace H8 := k_ (blk_below H8.out hb); replace T8 := k_ (Apt_below T8.out hb); replace HB9 := k_ (below_step HB9.out hb); replace H9 := k_ (blk_below H9.out hb); replace HB10 := k_ (below_step HB10.out hb); have H10 := k_ hbox; clear hg hbox hb) | ((with_reducible refine gate_store (t := 35) (p := 10) rfl ?_); have r608 := blk8 H10.out; have z609 := blf8 H10.out; refine store_event (t := 35) (p := 10) (v := ?vo_610) (w1 := w24.setCells g10 0 [.int .i64 z.f0, .string z.f1, .int .i64 z.f2, .int .i64 z.f3.f0, .slice en4_ z.f3.f1.length enc4_, .slice en5_ z.f3.f2.length enc5_, .slice en6_ z.f4.length enc6_, .slice en7_ z.f5.length enc7_]) ?hg ?ho ?hn ?hr ?_; (case ho => rfl); (case hg => rfl); (case hn => rfl); (case hr => first | (go_simp; done) | (go_simp; rfl)); intro w25 hw; replace HB := k_ (bew hw HB.out G_g10.out); replace H3 := k_ (bfw hw H3.out N_g3_g10.out); replace H5 := k_ (bfw hw H5.out N_g5_g10.out); replace H8 := k_ (bfw hw H8.out N_g8_g10.out); replace T8 := k_ (apw hw T8.out D_T8_g10.out); replace HB9 := k_ (bew hw HB9.out GE_HB9_g10.out); replace H9 := k_ (bfw hw H9.out N_g9_g10.out); replace HB10 := k_ (bew hw HB10.out GE_HB10_g10.out); replace H10 := k_ (show w25.heap[g10]? = some (.cells #[.int .i64 z.f0, .string z.f1, .int .i64 z.f2, .int .i64 z.f3.f0, .slice en4_ z.f3.f1.length enc4_, .slice en5_ z.f3.f2.length enc5_, .slice en6_ z.f4.length enc6_, .slice en7_ z.f5.length enc7_] 35 (0, 0)) from bsw hw H10.out (by simp only [putA, sP, Nat.zero_add, Nat.reduceAdd])); clear hw; have r611 := blk8 H9.out; have r612 := blk8 H10.out) | (go_at_call 7; clear mk5_; refine (SubstTerm_st (ndTerm x) x nm z SM.out SZ.out (Nat.le_refl _) NN.out an4_ anc4_ an5_ anc5_ an6_ anc6_ an7_ anc7_ en4_ enc4_ en5_ enc5_ en6_ enc6_ en7_ enc7_ _ ⟨Kd.C_below C9_1.out.1 HB9.out, C9_1.out.2⟩ ⟨Kd.C_below C9_2.out.1 HB9.out, C9_2.out.2⟩ ⟨Kd.C_below C9_3.out.1 HB9.out, C9_3.out.2⟩ ⟨Kd.C_below C9_4.out.1 HB9.out, C9_4.out.2⟩ ⟨Kd.C_below C10_1.out.1 HB10.out, C10_1.out.2⟩ ⟨Kd.C_below C10_2.out.1 HB10.out, C10_2.out.2⟩ ⟨Kd.C_below C10_3.out.1 HB10.out, C10_3.out.2⟩ ⟨Kd.C_below C10_4.out.1 HB10.out, C10_4.out.2⟩ (Laid_below HL.out HB.out)).mono ?_; rintro e w26 ⟨hs, he, hE, hA, hb⟩; rw [← HR_.out] at hE; obtain ⟨P1i, q1i, P2i, q2i, P3i, q3i, P4i, q4i, usi, dsi, rfl, hus, hds⟩ := TeE_open hE hA; obtain rfl : e = .returned (.agg #[.int .i64 res.f0, .string res.f1, .int .i64 res.f2, .int .i64 res.f3.f0, .slice P1i res.f3.f1.length q1i, .slice P2i res.f3.f2.length q2i, .slice P3i res.f4.length q3i, .slice P4i res.f5.length q4i]) := he; have tl_ := Apt_tl (Apt_tl (Apt_tl (Apt_tl hA))); have D_T11_g3 := k_ (Apt_ge tl_ (blk_lt H3.out)); have D_T11_g5 := k_ (Apt_ge tl_ (blk_lt H5.out)); have D_T11_g8 := k_ (Apt_ge tl_ (blk_lt H8.out)); have D_T11_g9 := k_ (Apt_ge tl_ (blk_lt H9.out)); have D_T11_g10 := k_ (Apt_ge tl_ (blk_lt H10.out)); have GE11 := k_ (show ∀ b ∈ blS [strR (.slice P1i res.f3.f1.length q1i) res.f3.f1, .row 32 3 res.f3.f2.length (.slice P2i res.f3.f2.length q2i) usi, strR (.slice P3i res.f4.length q3i) res.f4, .row 35 8 res.f5.length (.slice P4i res.f5.length q4i) dsi], w25.heap.size ≤ b from fun b hb_ => (OkS_in _ tl_.1 b hb_).1); have LT11_T8 := k_ (show ∀ b ∈ blS [strR (.slice P1T8 res.f3.f1.length q1T8) res.f3.f1, .row 32 3 res.f3.f2.length (.slice P2T8 res.f3.f2.length q2T8) usT8, strR (.slice P3T8 res.f4.length q3T8) res.f4, .row 35 8 res.f5.length (.slice P4T8 res.f5.length q4T8) dsT8], b < w25.heap.size from Apt_lt T8.out); have S9 := k_ (show w20.heap.size ≤ w25.heap.size from below_size HB9.out); have S10 := k_ (show w23.heap.size ≤ w25.heap.size from below_size HB10.out); have T11_ := k_ (Apt_lower tl_ (below_size HB.out)); have HUT11 := k_ hus; have HDT11 := k_ hds; replace HB := k_ (below_step HB.out hb); replace H3 := k_ (blk_below H3.out hb); replace H5 := k_ (blk_below H5.out hb); replace H8 := k_ (blk_below H8.out hb); replace T8 := k_ (Apt_below T8.out hb); replace HB9 := k_ (below_step HB9.out hb); replace H9 := k_ (blk_below H9.out hb); replace HB10 := k_ (below_step HB10.out hb); replace H10 := k_ (blk_below H10.out hb); have T11 := T11_; clear T11_ tl_ hA hE hus hds hb) | ((with_reducible refine gate_dst (N := 11) rfl ?_); refine box_event ?hg (N := 11) ?hd (cs := #[.int .i64 0, .string ⟨#[]⟩, .int .i64 0, .int .i64 0, .slice none 0 0, .slice none 0 0, .slice none 0 0, .slice none 0 0]) (t := 35) ?hr ?_; (case hd => rfl); (case hg => rfl); (case hr => first | (go_simp; done) | (go_simp; rfl)); intro g11 hg w27 hbox hb; have GE_HB9_g11 := k_ (nwG hg HB9.out); have GE_HB10_g11 := k_ (nwG hg HB10.out); have N_g3_g11 := k_ (nwN hg H3.out); have N_g11_g3 := k_ (Ne.symm N_g3_g11.out); have N_g5_g11 := k_ (nwN hg H5.out); have N_g11_g5 := k_ (Ne.symm N_g5_g11.out); have N_g8_g11 := k_ (nwN hg H8.out); have N_g11_g8 := k_ (Ne.symm N_g8_g11.out); have D_T8_g11 := k_ (nwD hg T8.out); have N_g9_g11 := k_ (nwN hg H9.out); have N_g11_g9 := k_ (Ne.symm N_g9_g11.out); have N_g10_g11 := k_ (nwN hg H10.out); have N_g11_g10 := k_ (Ne.symm N_g10_g11.out); have D_T11_g11 := k_ (nwD hg T11.out); have G_g11 := k_ (nwG hg HB.out); replace HB := k_ (below_step HB.out hb); replace H3 := k_ (blk_below H3.out hb); replace H5 := k_ (blk_below H5.out hb); replace H8 := k_ (blk_below H8.out hb); replace T8 := k_ (Apt_below T8.out hb); replace HB9 := k_ (below_step HB9.out hb); replace H9 := k_ (blk_below H9.out hb); replace HB10 := k_ (below_step HB10.out hb); replace H10 := k_ (blk_below H10.out hb); replace T11 := k_ (Apt_below T11.out hb); have H11 := k_ hbox; clear hg hbox hb) | ((with_reducible refine gate_store (t := 35) (p := 11) rfl ?_); have r613 := blk8 H11.out; have z614 := blf8 H11.out; refine store_event (t := 35) (p := 11) (v := ?vo_615) (w1 := w27.setCells g11 0 [.int .i64 res.f0, .string res.f1, .int .i64 res.f2, .int .i64 res.f3.f0, .slice P1i res.f3.f1.length q1i, .slice P2i res.f3.f2.length q2i, .slice P3i res.f4.length q3i, .slice P4i res.f5.length q4i]) ?hg ?ho ?hn ?hr ?_; (case ho => rfl); (case hg => rfl); (case hn => rfl); (case hr => first | (go_simp; done) | (go_simp; rfl)); intro w28 hw; replace HB := k_ (bew hw HB.out G_g11.out); replace H3 := k_ (bfw hw H3.out N_g3_g11.out); replace H5 := k_ (bfw hw H5.out N_g5_g11.out); replace H8 := k_ (bfw hw H8.out N_g8_g11.out); replace T8 := k_ (apw hw T8.out D_T8_g11.out); replace HB9 := k_ (bew hw HB9.out GE_HB9_g11.out); replace H9 := k_ (bfw hw H9.out N_g9_g11.out); replace HB10 := k_ (bew hw HB10.out GE_HB10_g11.out); replace H10 := k_ (bfw hw H10.out N_g10_g11.out); replace T11 := k_ (apw hw T11.out D_T11_g11.out); replace H11 := k_ (show w28.heap[g11]? = some (.cells #[.int .i64 res.f0, .string res.f1, .int .i64 res.f2, .int .i64 res.f3.f0, .slice P1i res.f3.f1.length q1i, .slice P2i res.f3.f2.length q2i, .slice P3i res.f4.length q3i, .slice P4i res.f5.length q4i] 35 (0, 0)) from bsw hw H11.out (by simp only [putA, sP, Nat.zero_add, Nat.reduceAdd])); clear hw; have r616 := blk8 H11.out; have r617 := blk8 H8.out) | (go_at_call 8; clear mk6_; have TC := TeE_C4 T11.out HUT11.out HDT11.out; have TD := TeE_C4 T8.out HUT8.out HDT8.out; refine (laws_eqTerm.calls KR res.f0 res.f1 res.f2 res.f3.f0 _ _ res.f3.f1 _ _ res.f3.f2 _ _ res.f4 _ _ res.f5 res.f0 res.f1 res.f2 res.f3.f0 _ _ res.f3.f1 _ _ res.f3.f2 _ _ res.f4 _ _ res.f5 true _ TC.1.1 TC.1.2 TC.2.1.1 TC.2.1.2 TC.2.2.1.1 TC.2.2.1.2 TC.2.2.2.1 TC.2.2.2.2 TD.1.1 TD.1.2 TD.2.1.1 TD.2.1.2 TD.2.2.1.1 TD.2.2.1.2 TD.2.2.2.1 TD.2.2.2.2 HER.out).mono ?_; rintro e w29 ⟨rfl, hb⟩; replace HB := k_ (below_step HB.out hb); replace H3 := k_ (blk_below H3.out hb); replace H5 := k_ (blk_below H5.out hb); replace H8 := k_ (blk_below H8.out hb); replace T8 := k_ (Apt_below T8.out hb); replace HB9 := k_ (below_step HB9.out hb); replace H9 := k_ (blk_below H9.out hb); replace HB10 := k_ (below_step HB10.out hb); replace H10 := k_ (blk_below H10.out hb); replace T11 := k_ (Apt_below T11.out hb); replace H11 := k_ (blk_below H11.out hb); clear TC TD hb))
   replace HB := k_ (below_drew1 HB.out)
   replace H3 := k_ (blk_drew H3.out)
   replace H5 := k_ (blk_drew H5.out)
   replace H8 := k_ (blk_drew H8.out)
   replace T8 := k_ (Apt_below T8.out (below_drew1 (Below.refl _ _)))
   replace HB9 := k_ (below_drew1 HB9.out)
   replace H9 := k_ (blk_drew H9.out)
   replace HB10 := k_ (below_drew1 HB10.out)
   replace H10 := k_ (blk_drew H10.out)
   replace T11 := k_ (Apt_below T11.out (below_drew1 (Below.refl _ _)))
   replace H11 := k_ (blk_drew H11.out)
   refine start_ (n := 5) (S := fun w' => (w'.heap[g9]? = some (.cells #[.int .i64 x.f0, .string x.f1, .int .i64 x.f2, .int .i64 x.f3.f0, .slice an4_ x.f3.f1.length anc4_, .slice an5_ x.f3.f2.length anc5_, .slice an6_ x.f4.length anc6_, .slice an7_ x.f5.length anc7_] 35 (0, 0))) ∧ (w'.heap[g3]? = some (.cells #[.int .i64 x0.f0, .string x0.f1, .int .i64 x0.f2, .int .i64 x0.f3.f0, .slice A1 x0.f3.f1.length c1, .slice A2 x0.f3.f2.length c2, .slice A3 x0.f4.length c3, .slice A4 x0.f5.length c4] 28 (0, 0)))) (ds := []) mWSub12 (by kernel_rfl) rfl rfl ⟨H9.out, H3.out⟩ (fun hHeld => ?_); refine with_tabW tabL.tab16 tabL.bits16 (fun HT_ HW_ => ?_)
   generalize w29.drew = w30 at HB H3 H5 H8 T8 HB9 H9 HB10 H10 T11 H11 hHeld ⊢
   refine take_ (i := 0) (N := some 47) (v := ?_) (a' := ?_) mWSub13 rfl rfl (take_ofW HT_.out HW_.out (by kernel_rfl)) (fun _ _ _ h => h) (Or.inl ⟨by rfl, ?_⟩) hHeld ?_ ?_
   rotate_left
   ·rintro w' ⟨s0, s1⟩
    have q0 := blk8 s0
    have q1 := blk8 s1
    go_simp
    with_reducible rfl
   rotate_left
   ·simp only [Act.put, sP]
    rfl
   refine take_ (i := 1) (N := some 48) (v := ?_) (a' := ?_) mWSub14 rfl rfl (take_ofW HT_.out HW_.out (by kernel_rfl)) (fun _ _ _ h => h) (Or.inl ⟨by rfl, ?_⟩) hHeld ?_ ?_
   rotate_left
   ·rintro w' ⟨s0, s1⟩
    have q0 := blk8 s0
    have q1 := blk8 s1
    go_simp
    with_reducible rfl
   rotate_left
   ·simp only [Act.put, sP]
    rfl
   refine one_ (i := 2) (N := some 49) mWSub15 rfl rfl (one_of HT_.out (by kernel_rfl)) (by decide) (fun K hK => ?_)
   refine goes_ Tryd.func6 (by kernel_rfl) rfl #[.agg #[.int .i64 x0.f0, .string x0.f1, .int .i64 x0.f2, .int .i64 x0.f3.f0, .slice A1 x0.f3.f1.length c1, .slice A2 x0.f3.f2.length c2, .slice A3 x0.f4.length c3, .slice A4 x0.f5.length c4]] (by rfl) rfl rfl (by (try simp only [List.map_toArray, List.map_cons, List.map_nil]); first | done | rfl) ?_
   refine (laws_toTerm.calls KT x0.f0 x0.f1 x0.f2 x0.f3.f0 _ _ x0.f3.f1 _ _ x0.f3.f2 _ _ x0.f4 _ _ x0.f5 x.f0 x.f1 x.f2 x.f3.f0 x.f3.f1 x.f3.f2 x.f4 x.f5 _ (Kd.C_below X1.out.1 HB.out) X1.out.2 (Kd.C_below X2.out.1 HB.out) X2.out.2 (Kd.C_below X3.out.1 HB.out) X3.out.2 (Kd.C_below X4.out.1 HB.out) X4.out.2 HT0.out).mono ?_
   rintro e w31 ⟨v4, v5, v6, v7, rfl, o4, o5, o6, o7, hb⟩
   obtain ⟨am4_, amc4_, rfl⟩ := Kd.R_slice o4
   obtain ⟨am5_, amc5_, rfl⟩ := Kd.R_slice o5
   obtain ⟨am6_, amc6_, rfl⟩ := Kd.R_slice o6
   obtain ⟨am7_, amc7_, rfl⟩ := Kd.R_slice o7
   refine ⟨.agg #[.int .i64 x.f0, .string x.f1, .int .i64 x.f2, .int .i64 x.f3.f0, .slice am4_ x.f3.f1.length amc4_, .slice am5_ x.f3.f2.length amc5_, .slice am6_ x.f4.length amc6_, .slice am7_ x.f5.length amc7_], rfl, ?_⟩
   replace HB := k_ (below_step HB.out hb)
   replace H3 := k_ (blk_below H3.out hb)
   replace H5 := k_ (blk_below H5.out hb)
   replace H8 := k_ (blk_below H8.out hb)
   replace T8 := k_ (Apt_below T8.out hb)
   replace HB9 := k_ (below_step HB9.out hb)
   replace H9 := k_ (blk_below H9.out hb)
   replace HB10 := k_ (below_step HB10.out hb)
   replace H10 := k_ (blk_below H10.out hb)
   replace T11 := k_ (Apt_below T11.out hb)
   replace H11 := k_ (blk_below H11.out hb)
   have Em1 := k_ (And.intro (Kd.R_reads' o4).2.2 (Kd.R_reads' o4).2.1)
   have Em2 := k_ (And.intro (Kd.R_reads' o5).2.2 (Kd.R_reads' o5).2.1)
   have Em3 := k_ (And.intro (Kd.R_reads' o6).2.2 (Kd.R_reads' o6).2.1)
   have Em4 := k_ (And.intro (Kd.R_reads' o7).2.2 (Kd.R_reads' o7).2.1)
   clear o4 o5 o6 o7 hb
   refine hK.out _ _ ⟨H9.out, H3.out⟩ (fun hHeld => ?_)
   clear hK K
   refine norm_ (a' := ?_) ?_ ?_
   rotate_left
   ·show Act.put _ (some 49) _ = _
    simp only [Act.put, sP]
    rfl
   refine one_ (i := 3) (N := some 50) mWSub16 rfl rfl (one_of HT_.out (by kernel_rfl)) (by decide) (fun K hK => ?_)
   refine goes_ Tryd.func8 (by kernel_rfl) rfl #[.agg #[.int .i64 x.f0, .string x.f1, .int .i64 x.f2, .int .i64 x.f3.f0, .slice an4_ x.f3.f1.length anc4_, .slice an5_ x.f3.f2.length anc5_, .slice an6_ x.f4.length anc6_, .slice an7_ x.f5.length anc7_], .agg #[.int .i64 x.f0, .string x.f1, .int .i64 x.f2, .int .i64 x.f3.f0, .slice am4_ x.f3.f1.length amc4_, .slice am5_ x.f3.f2.length amc5_, .slice am6_ x.f4.length amc6_, .slice am7_ x.f5.length amc7_]] (by rfl) rfl rfl (by (try simp only [List.map_toArray, List.map_cons, List.map_nil]); first | done | rfl) ?_
   refine (laws_eqTerm.calls KX x.f0 x.f1 x.f2 x.f3.f0 _ _ x.f3.f1 _ _ x.f3.f2 _ _ x.f4 _ _ x.f5 x.f0 x.f1 x.f2 x.f3.f0 _ _ x.f3.f1 _ _ x.f3.f2 _ _ x.f4 _ _ x.f5 true _ (Kd.C_below C9_1.out.1 HB9.out) C9_1.out.2 (Kd.C_below C9_2.out.1 HB9.out) C9_2.out.2 (Kd.C_below C9_3.out.1 HB9.out) C9_3.out.2 (Kd.C_below C9_4.out.1 HB9.out) C9_4.out.2 Em1.out.1 Em1.out.2 Em2.out.1 Em2.out.2 Em3.out.1 Em3.out.2 Em4.out.1 Em4.out.2 HEX.out).mono ?_
   rintro e w32 ⟨rfl, hb⟩
   refine ⟨_, rfl, ?_⟩
   clear Em1 Em2 Em3 Em4
   replace HB := k_ (below_step HB.out hb)
   replace H3 := k_ (blk_below H3.out hb)
   replace H5 := k_ (blk_below H5.out hb)
   replace H8 := k_ (blk_below H8.out hb)
   replace T8 := k_ (Apt_below T8.out hb)
   replace HB9 := k_ (below_step HB9.out hb)
   replace H9 := k_ (blk_below H9.out hb)
   replace HB10 := k_ (below_step HB10.out hb)
   replace H10 := k_ (blk_below H10.out hb)
   replace T11 := k_ (Apt_below T11.out hb)
   replace H11 := k_ (blk_below H11.out hb)
   clear hb
   refine hK.out _ _ ⟨H9.out, H3.out⟩ (fun hHeld => ?_)
   clear hK K
   refine norm_ (a' := ?_) ?_ ?_
   rotate_left
   ·show Act.put _ (some 50) _ = _
    simp only [Act.put, sP]
    rfl
   refine pure_ (i := 4) (N := some 51) (v := ?_) (a' := ?_) mWSub17 rfl rfl (any_of HT_.out (by kernel_rfl)) (fun _ _ _ h => h) (Or.inl ⟨by rfl, ?_⟩) ?_ ?_
   rotate_left
   ·intro w'
    go_simp
    try with_reducible rfl
   rotate_left
   ·simp only [Act.put, sP]
    rfl
   refine done_ (done_of HT_.out (by kernel_rfl)) ?_
   clear HT_ HW_
   clear hHeld
   try go_wp2
   replace HB := k_ (below_drew1 HB.out)
   replace H3 := k_ (blk_drew H3.out)
   replace H5 := k_ (blk_drew H5.out)
   replace H8 := k_ (blk_drew H8.out)
   replace T8 := k_ (Apt_below T8.out (below_drew1 (Below.refl _ _)))
   replace HB9 := k_ (below_drew1 HB9.out)
   replace H9 := k_ (blk_drew H9.out)
   replace HB10 := k_ (below_drew1 HB10.out)
   replace H10 := k_ (blk_drew H10.out)
   replace T11 := k_ (Apt_below T11.out (below_drew1 (Below.refl _ _)))
   replace H11 := k_ (blk_drew H11.out)
   refine start_ (n := 5) (S := fun w' => (w'.heap[g10]? = some (.cells #[.int .i64 z.f0, .string z.f1, .int .i64 z.f2, .int .i64 z.f3.f0, .slice en4_ z.f3.f1.length enc4_, .slice en5_ z.f3.f2.length enc5_, .slice en6_ z.f4.length enc6_, .slice en7_ z.f5.length enc7_] 35 (0, 0))) ∧ (w'.heap[g5]? = some (.cells #[.int .i64 x2.f0, .string x2.f1, .int .i64 x2.f2, .int .i64 x2.f3.f0, .slice D1 x2.f3.f1.length kz1, .slice D2 x2.f3.f2.length kz2, .slice D3 x2.f4.length kz3, .slice D4 x2.f5.length kz4] 28 (0, 0)))) (ds := []) mWSub12 (by kernel_rfl) rfl rfl ⟨H10.out, H5.out⟩ (fun hHeld => ?_); refine with_tabW tabL.tab18 tabL.bits18 (fun HT_ HW_ => ?_)
   generalize w32.drew = w34 at HB H3 H5 H8 T8 HB9 H9 HB10 H10 T11 H11 hHeld ⊢
   refine take_ (i := 0) (N := some 52) (v := ?_) (a' := ?_) mWSub13 rfl rfl (take_ofW HT_.out HW_.out (by kernel_rfl)) (fun _ _ _ h => h) (Or.inl ⟨by rfl, ?_⟩) hHeld ?_ ?_
   rotate_left
   ·rintro w' ⟨s0, s1⟩
    have q0 := blk8 s0
    have q1 := blk8 s1
    go_simp
    with_reducible rfl
   rotate_left
   ·simp only [Act.put, sP]
    rfl
   refine take_ (i := 1) (N := some 53) (v := ?_) (a' := ?_) mWSub14 rfl rfl (take_ofW HT_.out HW_.out (by kernel_rfl)) (fun _ _ _ h => h) (Or.inl ⟨by rfl, ?_⟩) hHeld ?_ ?_
   rotate_left
   ·rintro w' ⟨s0, s1⟩
    have q0 := blk8 s0
    have q1 := blk8 s1
    go_simp
    with_reducible rfl
   rotate_left
   ·simp only [Act.put, sP]
    rfl
   refine one_ (i := 2) (N := some 54) mWSub15 rfl rfl (one_of HT_.out (by kernel_rfl)) (by decide) (fun K hK => ?_)
   refine goes_ Tryd.func6 (by kernel_rfl) rfl #[.agg #[.int .i64 x2.f0, .string x2.f1, .int .i64 x2.f2, .int .i64 x2.f3.f0, .slice D1 x2.f3.f1.length kz1, .slice D2 x2.f3.f2.length kz2, .slice D3 x2.f4.length kz3, .slice D4 x2.f5.length kz4]] (by rfl) rfl rfl (by (try simp only [List.map_toArray, List.map_cons, List.map_nil]); first | done | rfl) ?_
   refine (laws_toTerm.calls KU x2.f0 x2.f1 x2.f2 x2.f3.f0 _ _ x2.f3.f1 _ _ x2.f3.f2 _ _ x2.f4 _ _ x2.f5 z.f0 z.f1 z.f2 z.f3.f0 z.f3.f1 z.f3.f2 z.f4 z.f5 _ (Kd.C_below Z1.out.1 HB.out) Z1.out.2 (Kd.C_below Z2.out.1 HB.out) Z2.out.2 (Kd.C_below Z3.out.1 HB.out) Z3.out.2 (Kd.C_below Z4.out.1 HB.out) Z4.out.2 HT2.out).mono ?_
   rintro e w35 ⟨v4, v5, v6, v7, rfl, o4, o5, o6, o7, hb⟩
   obtain ⟨em4_, emc4_, rfl⟩ := Kd.R_slice o4
   obtain ⟨em5_, emc5_, rfl⟩ := Kd.R_slice o5
   obtain ⟨em6_, emc6_, rfl⟩ := Kd.R_slice o6
   obtain ⟨em7_, emc7_, rfl⟩ := Kd.R_slice o7
   refine ⟨.agg #[.int .i64 z.f0, .string z.f1, .int .i64 z.f2, .int .i64 z.f3.f0, .slice em4_ z.f3.f1.length emc4_, .slice em5_ z.f3.f2.length emc5_, .slice em6_ z.f4.length emc6_, .slice em7_ z.f5.length emc7_], rfl, ?_⟩
   replace HB := k_ (below_step HB.out hb)
   replace H3 := k_ (blk_below H3.out hb)
   replace H5 := k_ (blk_below H5.out hb)
   replace H8 := k_ (blk_below H8.out hb)
   replace T8 := k_ (Apt_below T8.out hb)
   replace HB9 := k_ (below_step HB9.out hb)
   replace H9 := k_ (blk_below H9.out hb)
   replace HB10 := k_ (below_step HB10.out hb)
   replace H10 := k_ (blk_below H10.out hb)
   replace T11 := k_ (Apt_below T11.out hb)
   replace H11 := k_ (blk_below H11.out hb)
   have Fm1 := k_ (And.intro (Kd.R_reads' o4).2.2 (Kd.R_reads' o4).2.1)
   have Fm2 := k_ (And.intro (Kd.R_reads' o5).2.2 (Kd.R_reads' o5).2.1)
   have Fm3 := k_ (And.intro (Kd.R_reads' o6).2.2 (Kd.R_reads' o6).2.1)
   have Fm4 := k_ (And.intro (Kd.R_reads' o7).2.2 (Kd.R_reads' o7).2.1)
   clear o4 o5 o6 o7 hb
   refine hK.out _ _ ⟨H10.out, H5.out⟩ (fun hHeld => ?_)
   clear hK K
   refine norm_ (a' := ?_) ?_ ?_
   rotate_left
   ·show Act.put _ (some 54) _ = _
    simp only [Act.put, sP]
    rfl
   refine one_ (i := 3) (N := some 55) mWSub16 rfl rfl (one_of HT_.out (by kernel_rfl)) (by decide) (fun K hK => ?_)
   refine goes_ Tryd.func8 (by kernel_rfl) rfl #[.agg #[.int .i64 z.f0, .string z.f1, .int .i64 z.f2, .int .i64 z.f3.f0, .slice en4_ z.f3.f1.length enc4_, .slice en5_ z.f3.f2.length enc5_, .slice en6_ z.f4.length enc6_, .slice en7_ z.f5.length enc7_], .agg #[.int .i64 z.f0, .string z.f1, .int .i64 z.f2, .int .i64 z.f3.f0, .slice em4_ z.f3.f1.length emc4_, .slice em5_ z.f3.f2.length emc5_, .slice em6_ z.f4.length emc6_, .slice em7_ z.f5.length emc7_]] (by rfl) rfl rfl (by (try simp only [List.map_toArray, List.map_cons, List.map_nil]); first | done | rfl) ?_
   refine (laws_eqTerm.calls KY z.f0 z.f1 z.f2 z.f3.f0 _ _ z.f3.f1 _ _ z.f3.f2 _ _ z.f4 _ _ z.f5 z.f0 z.f1 z.f2 z.f3.f0 _ _ z.f3.f1 _ _ z.f3.f2 _ _ z.f4 _ _ z.f5 true _ (Kd.C_below C10_1.out.1 HB10.out) C10_1.out.2 (Kd.C_below C10_2.out.1 HB10.out) C10_2.out.2 (Kd.C_below C10_3.out.1 HB10.out) C10_3.out.2 (Kd.C_below C10_4.out.1 HB10.out) C10_4.out.2 Fm1.out.1 Fm1.out.2 Fm2.out.1 Fm2.out.2 Fm3.out.1 Fm3.out.2 Fm4.out.1 Fm4.out.2 HEZ.out).mono ?_
   rintro e w36 ⟨rfl, hb⟩
   refine ⟨_, rfl, ?_⟩
   clear Fm1 Fm2 Fm3 Fm4
   replace HB := k_ (below_step HB.out hb)
   replace H3 := k_ (blk_below H3.out hb)
   replace H5 := k_ (blk_below H5.out hb)
   replace H8 := k_ (blk_below H8.out hb)
   replace T8 := k_ (Apt_below T8.out hb)
   replace HB9 := k_ (below_step HB9.out hb)
   replace H9 := k_ (blk_below H9.out hb)
   replace HB10 := k_ (below_step HB10.out hb)
   replace H10 := k_ (blk_below H10.out hb)
   replace T11 := k_ (Apt_below T11.out hb)
   replace H11 := k_ (blk_below H11.out hb)
   clear hb
   refine hK.out _ _ ⟨H10.out, H5.out⟩ (fun hHeld => ?_)
   clear hK K
   refine norm_ (a' := ?_) ?_ ?_
   rotate_left
   ·show Act.put _ (some 55) _ = _
    simp only [Act.put, sP]
    rfl
   refine pure_ (i := 4) (N := some 56) (v := ?_) (a' := ?_) mWSub17 rfl rfl (any_of HT_.out (by kernel_rfl)) (fun _ _ _ h => h) (Or.inl ⟨by rfl, ?_⟩) ?_ ?_
   rotate_left
   ·intro w'
    go_simp
    try with_reducible rfl
   rotate_left
   ·simp only [Act.put, sP]
    rfl
   refine done_ (done_of HT_.out (by kernel_rfl)) ?_
   clear HT_ HW_
   clear hHeld
   have mk7_ := True.intro; have mk8_ := True.intro; have mk9_ := True.intro; have mkA_ := True.intro; have mkB_ := True.intro
   have r1018 := blk8 H9.out
   go_wp2_with (first | (go_at_call 9; clear mk7_; refine (goE x SM.out 1 an4_ an5_ an6_ an7_ anc4_ anc5_ anc6_ anc7_ (fun k_ => w12.heap.size ≤ k_ ∧ k_ < w20.heap.size) _ (by omega) (by have := CX.out; omega) (ShL.step (fun _ h_ => h_) (Sw.of_below (fun _ => False) HB9.out) SH9_1.out) (ShTS.step (fun _ h_ => h_) (Sw.of_below (fun _ => False) HB9.out) SH9_2.out) (ShL.step (fun _ h_ => h_) (Sw.of_below (fun _ => False) HB9.out) SH9_3.out) (ShES.step (fun _ h_ => h_) (Sw.of_below (fun _ => False) HB9.out) SH9_4.out)).mono ?_; rintro e w40 ⟨r9, hr9, rfl, hsw⟩; have HR9 := k_ hr9; have SG1 := k_ (ShL.step (fun _ h_ => h_) hsw (ShL.step (fun _ h_ => h_) (Sw.of_below (fun _ => False) HB10.out) SH10_1.out)); have SG2 := k_ (ShTS.step (fun _ h_ => h_) hsw (ShTS.step (fun _ h_ => h_) (Sw.of_below (fun _ => False) HB10.out) SH10_2.out)); have SG3 := k_ (ShL.step (fun _ h_ => h_) hsw (ShL.step (fun _ h_ => h_) (Sw.of_below (fun _ => False) HB10.out) SH10_3.out)); have SG4 := k_ (ShES.step (fun _ h_ => h_) hsw (ShES.step (fun _ h_ => h_) (Sw.of_below (fun _ => False) HB10.out) SH10_4.out)); clear HB9 HB10; replace HB := k_ (Sw.old HB.out hsw (fun k_ h_ => Nat.le_trans LW9.out h_.1)); replace H3 := k_ (blk_kept H3.out hsw.kept (fun h_ => absurd h_.1 (by have := LT9_g3.out; omega))); replace H5 := k_ (blk_kept H5.out hsw.kept (fun h_ => absurd h_.1 (by have := LT9_g5.out; omega))); replace H8 := k_ (blk_kept H8.out hsw.kept (fun h_ => absurd h_.1 (by have := LT9_g8.out; omega))); replace T8 := k_ (Apt_kept T8.out hsw.kept (fun b_ hb_ h_ => absurd h_.1 (by have := LT9_T8.out b_ hb_; omega))); replace H9 := k_ (blk_kept H9.out hsw.kept (fun h_ => absurd h_.2 (by have := GE_HB9_g9.out; omega))); replace H10 := k_ (blk_kept H10.out hsw.kept (fun h_ => absurd h_.2 (by have := GE_HB9_g10.out; omega))); replace T11 := k_ (Apt_kept T11.out hsw.kept (fun b_ hb_ h_ => absurd h_.2 (by have := GE11.out b_ hb_; have := S9.out; omega))); replace H11 := k_ (blk_kept H11.out hsw.kept (fun h_ => absurd h_.2 (by have := GE_HB9_g11.out; omega))); clear hsw hr9; have r1019 := blk8 H10.out; clear H9) | (go_at_call 9; clear mk8_; refine (goE z SZ.out r9 en4_ en5_ en6_ en7_ enc4_ enc5_ enc6_ enc7_ (fun k_ => w22.heap.size ≤ k_ ∧ k_ < w23.heap.size) _ (by have := HR9.out; omega) (by have := HR9.out; have := CX.out; have := CZ.out; omega) SG1.out SG2.out SG3.out SG4.out).mono ?_; rintro e w41 ⟨r10, hr10, rfl, hsw⟩; have r10a : decide (r10 < 0) = false := decide_eq_false (by omega); replace HB := k_ (Sw.old HB.out hsw (fun k_ h_ => Nat.le_trans LW10.out h_.1)); replace H3 := k_ (blk_kept H3.out hsw.kept (fun h_ => absurd h_.1 (by have := LT10_g3.out; omega))); replace H5 := k_ (blk_kept H5.out hsw.kept (fun h_ => absurd h_.1 (by have := LT10_g5.out; omega))); replace H8 := k_ (blk_kept H8.out hsw.kept (fun h_ => absurd h_.1 (by have := LT10_g8.out; omega))); replace T8 := k_ (Apt_kept T8.out hsw.kept (fun b_ hb_ h_ => absurd h_.1 (by have := LT10_T8.out b_ hb_; omega))); replace H10 := k_ (blk_kept H10.out hsw.kept (fun h_ => absurd h_.2 (by have := GE_HB10_g10.out; omega))); replace T11 := k_ (Apt_kept T11.out hsw.kept (fun b_ hb_ h_ => absurd h_.2 (by have := GE11.out b_ hb_; have := S10.out; omega))); replace H11 := k_ (blk_kept H11.out hsw.kept (fun h_ => absurd h_.2 (by have := GE_HB10_g11.out; omega))); clear hsw hr10; have r1020 := blk8 H11.out; have r1021 := blk8 H8.out; clear H10) | (go_at_call 8; clear mk9_; have TC := TeE_C4 T11.out HUT11.out HDT11.out; have TD := TeE_C4 T8.out HUT8.out HDT8.out; refine (laws_eqTerm.calls KR res.f0 res.f1 res.f2 res.f3.f0 _ _ res.f3.f1 _ _ res.f3.f2 _ _ res.f4 _ _ res.f5 res.f0 res.f1 res.f2 res.f3.f0 _ _ res.f3.f1 _ _ res.f3.f2 _ _ res.f4 _ _ res.f5 true _ TC.1.1 TC.1.2 TC.2.1.1 TC.2.1.2 TC.2.2.1.1 TC.2.2.1.2 TC.2.2.2.1 TC.2.2.2.2 TD.1.1 TD.1.2 TD.2.1.1 TD.2.1.2 TD.2.2.1.1 TD.2.2.1.2 TD.2.2.2.1 TD.2.2.2.2 HER.out).mono ?_; rintro e w42 ⟨rfl, hb⟩; replace HB := k_ (below_step HB.out hb); replace H3 := k_ (blk_below H3.out hb); replace H5 := k_ (blk_below H5.out hb); replace H8 := k_ (blk_below H8.out hb); replace T8 := k_ (Apt_below T8.out hb); replace T11 := k_ (Apt_below T11.out hb); replace H11 := k_ (blk_below H11.out hb); clear TC TD hb; have r1022 := blk8 H11.out) | (go_at_call 9; clear mkA_; refine (markTerm_h res SR.out 1 (by omega) (by have := CR.out; unfold cnTop at this; omega) res.f0 res.f2 res.f3.f0 res.f1 (.slice P1i res.f3.f1.length q1i) (.slice P2i res.f3.f2.length q2i) (.slice P3i res.f4.length q3i) (.slice P4i res.f5.length q4i) usi dsi w _ HB.out HUT11.out HDT11.out T11.out).mono ?_; rintro e w43 ⟨he, u11, d11, hE2, hD2, hA2, hl2, hb, hk⟩; replace he : e = .returned (.int .i64 cv) := (by rw [he, HCV.out, show ((1 + (res.f3.f1.length : Nat) + (cnTypeS res.f3.f2 : Nat) + (res.f4.length : Nat) + (cnTermS res.f5 : Nat) : Int)) = 1 + (cnTop res : Int) by unfold cnTop; omega]); subst he; have e1 := k_ (show res.f3.f1.length = y.f3.f1.length by rw [HYE.out]; simp [mkTop, mtS_length]); have e2 := k_ (show res.f3.f2.length = y.f3.f2.length by rw [HYE.out]; simp [mkTop, mkTypeS_length]); have e3 := k_ (show res.f4.length = y.f4.length by rw [HYE.out]; simp [mkTop, mtS_length]); have e4 := k_ (show res.f5.length = y.f5.length by rw [HYE.out]; simp [mkTop, mkTermS_length]); have T11_ := k_ (show Apt w43 w.heap.size [strR (.slice P1i y.f3.f1.length q1i) y.f3.f1, .row 32 3 y.f3.f2.length (.slice P2i y.f3.f2.length q2i) u11, strR (.slice P3i y.f4.length q3i) y.f4, .row 35 8 y.f5.length (.slice P4i y.f5.length q4i) d11] by rw [← e1.out, ← e2.out, ← e3.out, ← e4.out, HYE.out]; exact hA2); have HUy := k_ (show TyES y.f3.f2 u11 by rw [HYE.out]; exact hE2); have HDy := k_ (show TeES y.f5 d11 by rw [HYE.out]; exact hD2); replace HB := k_ (hb); replace H3 := k_ (blk_kept H3.out hk (fun h_ => D_T11_g3.out _ h_ rfl)); replace H5 := k_ (blk_kept H5.out hk (fun h_ => D_T11_g5.out _ h_ rfl)); replace H8 := k_ (blk_kept H8.out hk (fun h_ => D_T11_g8.out _ h_ rfl)); replace T8 := k_ (Apt_kept T8.out hk (fun b_ hb_ h_ => absurd (LT11_T8.out b_ hb_) (by have := GE11.out b_ h_; omega))); replace H11 := k_ (blk_kept H11.out hk (fun h_ => D_T11_g11.out _ h_ rfl)); clear T11; have T11 := T11_; have H11_ := k_ (show w43.heap[g11]? = some (.cells #[.int .i64 res.f0, .string res.f1, .int .i64 res.f2, .int .i64 res.f3.f0, .slice P1i y.f3.f1.length q1i, .slice P2i y.f3.f2.length q2i, .slice P3i y.f4.length q3i, .slice P4i y.f5.length q4i] 35 (0, 0)) by rw [← e1.out, ← e2.out, ← e3.out, ← e4.out]; exact H11.out); clear H11 T11_; have H11 := H11_; clear H11_ hE2 hD2 hA2 hl2 hb hk; have r1023 := blk8 H11.out) | (go_at_call 10; clear mkB_; have TC := TeE_C4 (y := y) T11.out HUy.out HDy.out; refine (laws_heldTerm.calls KH res.f0 res.f1 res.f2 res.f3.f0 _ _ y.f3.f1 _ _ y.f3.f2 _ _ y.f4 _ _ y.f5 1 cv _ TC.1.1 TC.1.2 TC.2.1.1 TC.2.1.2 TC.2.2.1.1 TC.2.2.1.2 TC.2.2.2.1 TC.2.2.2.2 HH.out).mono ?_; rintro e w44 ⟨rfl, hb⟩; replace HB := k_ (below_step HB.out hb); replace H3 := k_ (blk_below H3.out hb); replace H5 := k_ (blk_below H5.out hb); replace H8 := k_ (blk_below H8.out hb); replace T8 := k_ (Apt_below T8.out hb); replace H11 := k_ (blk_below H11.out hb); replace T11 := k_ (Apt_below T11.out hb); clear TC hb))
   replace HB := k_ (below_drew1 HB.out)
   replace H3 := k_ (blk_drew H3.out)
   replace H5 := k_ (blk_drew H5.out)
   replace H8 := k_ (blk_drew H8.out)
   replace T8 := k_ (Apt_below T8.out (below_drew1 (Below.refl _ _)))
   replace H11 := k_ (blk_drew H11.out)
   replace T11 := k_ (Apt_below T11.out (below_drew1 (Below.refl _ _)))
   refine start_ (n := 8) (S := fun w' => (w'.heap[g3]? = some (.cells #[.int .i64 x0.f0, .string x0.f1, .int .i64 x0.f2, .int .i64 x0.f3.f0, .slice A1 x0.f3.f1.length c1, .slice A2 x0.f3.f2.length c2, .slice A3 x0.f4.length c3, .slice A4 x0.f5.length c4] 28 (0, 0))) ∧ (w'.heap[g5]? = some (.cells #[.int .i64 x2.f0, .string x2.f1, .int .i64 x2.f2, .int .i64 x2.f3.f0, .slice D1 x2.f3.f1.length kz1, .slice D2 x2.f3.f2.length kz2, .slice D3 x2.f4.length kz3, .slice D4 x2.f5.length kz4] 28 (0, 0)))) (ds := []) mWSub0 (by kernel_rfl) rfl rfl ⟨H3.out, H5.out⟩ (fun hHeld => ?_); refine with_tabW tabL.tab33 tabL.bits33 (fun HT_ HW_ => ?_)
   generalize w44.drew = w50 at HB H3 H5 H8 T8 H11 T11 hHeld ⊢
   refine take_ (i := 0) (N := some 82) (v := ?_) (a' := ?_) mWSub1 rfl rfl (take_ofW HT_.out HW_.out (by kernel_rfl)) (fun _ _ _ h => h) (Or.inl ⟨by rfl, ?_⟩) hHeld ?_ ?_
   rotate_left
   ·rintro w' ⟨s0, s1⟩
    have q0 := blk8 s0
    have q1 := blk8 s1
    go_simp
    with_reducible rfl
   rotate_left
   ·simp only [Act.put, sP]
    rfl
   refine take_ (i := 3) (N := some 85) (v := ?_) (a' := ?_) mWSub2 rfl rfl (take_ofW HT_.out HW_.out (by kernel_rfl)) (fun _ _ _ h => h) (Or.inl ⟨by rfl, ?_⟩) hHeld ?_ ?_
   rotate_left
   ·rintro w' ⟨s0, s1⟩
    have q0 := blk8 s0
    have q1 := blk8 s1
    go_simp
    with_reducible rfl
   rotate_left
   ·simp only [Act.put, sP]
    rfl
   refine pure_ (i := 2) (N := some 84) (v := ?_) (a' := ?_) mWSub3 rfl rfl (any_of HT_.out (by kernel_rfl)) (fun _ _ _ h => h) (Or.inl ⟨by rfl, ?_⟩) ?_ ?_
   rotate_left
   ·intro w'
    go_simp
    try with_reducible rfl
   rotate_left
   ·simp only [Act.put, sP]
    rfl
   refine join_ (σ := Value × Value × Value × Value × Value × Value × List HT × List HT × Nat) 1 mWSub10 (fun s_ => [(83, s_.1), (86, s_.2.1), (87, .agg #[.int .i64 res.f0, .string res.f1, .int .i64 res.f2, .int .i64 res.f3.f0, s_.2.2.1, s_.2.2.2.1, s_.2.2.2.2.1, s_.2.2.2.2.2.1]), (15, .pointer (some ⟨s_.2.2.2.2.2.2.2.2, 0, none⟩))]) (fun s_ w' => ((w'.heap[g3]? = some (.cells #[.int .i64 x0.f0, .string x0.f1, .int .i64 x0.f2, .int .i64 x0.f3.f0, .slice A1 x0.f3.f1.length c1, .slice A2 x0.f3.f2.length c2, .slice A3 x0.f4.length c3, .slice A4 x0.f5.length c4] 28 (0, 0))) ∧ (w'.heap[g5]? = some (.cells #[.int .i64 x2.f0, .string x2.f1, .int .i64 x2.f2, .int .i64 x2.f3.f0, .slice D1 x2.f3.f1.length kz1, .slice D2 x2.f3.f2.length kz2, .slice D3 x2.f4.length kz3, .slice D4 x2.f5.length kz4] 28 (0, 0)))) ∧ Apt w' w.heap.size [strR s_.2.2.1 res.f3.f1, .row 32 3 res.f3.f2.length s_.2.2.2.1 s_.2.2.2.2.2.2.1, strR s_.2.2.2.2.1 res.f4, .row 35 8 res.f5.length s_.2.2.2.2.2.1 s_.2.2.2.2.2.2.2.1] ∧ (∀ b ∈ blS [strR s_.2.2.1 res.f3.f1, .row 32 3 res.f3.f2.length s_.2.2.2.1 s_.2.2.2.2.2.2.1, strR s_.2.2.2.2.1 res.f4, .row 35 8 res.f5.length s_.2.2.2.2.2.1 s_.2.2.2.2.2.2.2.1], b ≠ s_.2.2.2.2.2.2.2.2) ∧ TyES res.f3.f2 s_.2.2.2.2.2.2.1 ∧ TeES res.f5 s_.2.2.2.2.2.2.2.1 ∧ (Below w.heap.size w w') ∧ (w'.heap[g3]? = some (.cells #[.int .i64 x0.f0, .string x0.f1, .int .i64 x0.f2, .int .i64 x0.f3.f0, .slice A1 x0.f3.f1.length c1, .slice A2 x0.f3.f2.length c2, .slice A3 x0.f4.length c3, .slice A4 x0.f5.length c4] 28 (0, 0))) ∧ (w'.heap[g5]? = some (.cells #[.int .i64 x2.f0, .string x2.f1, .int .i64 x2.f2, .int .i64 x2.f3.f0, .slice D1 x2.f3.f1.length kz1, .slice D2 x2.f3.f2.length kz2, .slice D3 x2.f4.length kz3, .slice D4 x2.f5.length kz4] 28 (0, 0))) ∧ (w'.heap[g8]? = some (.cells #[.int .i64 res.f0, .string res.f1, .int .i64 res.f2, .int .i64 res.f3.f0, .slice P1T8 res.f3.f1.length q1T8, .slice P2T8 res.f3.f2.length q2T8, .slice P3T8 res.f4.length q3T8, .slice P4T8 res.f5.length q4T8] 35 (0, 0))) ∧ (Apt w' w.heap.size [strR (.slice P1T8 res.f3.f1.length q1T8) res.f3.f1, .row 32 3 res.f3.f2.length (.slice P2T8 res.f3.f2.length q2T8) usT8, strR (.slice P3T8 res.f4.length q3T8) res.f4, .row 35 8 res.f5.length (.slice P4T8 res.f5.length q4T8) dsT8]) ∧ (w'.heap[g11]? = some (.cells #[.int .i64 res.f0, .string res.f1, .int .i64 res.f2, .int .i64 res.f3.f0, .slice P1i y.f3.f1.length q1i, .slice P2i y.f3.f2.length q2i, .slice P3i y.f4.length q3i, .slice P4i y.f5.length q4i] 35 (0, 0))) ∧ (Apt w' w.heap.size [strR (.slice P1i y.f3.f1.length q1i) y.f3.f1, .row 32 3 y.f3.f2.length (.slice P2i y.f3.f2.length q2i) u11, strR (.slice P3i y.f4.length q3i) y.f4, .row 35 8 y.f5.length (.slice P4i y.f5.length q4i) d11]) ∧ w'.heap[s_.2.2.2.2.2.2.2.2]? = some (.cells #[.int .i64 0, .string ⟨#[]⟩, .int .i64 0, .int .i64 0, .slice none 0 0, .slice none 0 0, .slice none 0 0, .slice none 0 0] 35 (0, 0)) ∧ w.heap.size ≤ s_.2.2.2.2.2.2.2.2 ∧ g3 ≠ s_.2.2.2.2.2.2.2.2 ∧ g5 ≠ s_.2.2.2.2.2.2.2.2 ∧ g8 ≠ s_.2.2.2.2.2.2.2.2 ∧ g11 ≠ s_.2.2.2.2.2.2.2.2 ∧ (∀ b ∈ blS [strR (.slice P1T8 res.f3.f1.length q1T8) res.f3.f1, .row 32 3 res.f3.f2.length (.slice P2T8 res.f3.f2.length q2T8) usT8, strR (.slice P3T8 res.f4.length q3T8) res.f4, .row 35 8 res.f5.length (.slice P4T8 res.f5.length q4T8) dsT8], b ≠ s_.2.2.2.2.2.2.2.2) ∧ (∀ b ∈ blS [strR (.slice P1i y.f3.f1.length q1i) y.f3.f1, .row 32 3 y.f3.f2.length (.slice P2i y.f3.f2.length q2i) u11, strR (.slice P3i y.f4.length q3i) y.f4, .row 35 8 y.f5.length (.slice P4i y.f5.length q4i) d11], b ≠ s_.2.2.2.2.2.2.2.2)) ?_ ?_
   rotate_left
   ·intro hCont
    refine two_ (i := 1) (j := 6) (Ni := some 83) (Nj := some 15) mWSub4 mWSub5 rfl rfl rfl rfl (two_of HT_.out (by kernel_rfl)) (by decide) (by decide) (fun K hK => ?_) (fun K hK => ?_)
    ·refine goes_ Tryd.func6 (by kernel_rfl) rfl #[.agg #[.int .i64 x0.f0, .string x0.f1, .int .i64 x0.f2, .int .i64 x0.f3.f0, .slice A1 x0.f3.f1.length c1, .slice A2 x0.f3.f2.length c2, .slice A3 x0.f4.length c3, .slice A4 x0.f5.length c4]] (by rfl) rfl rfl (by (try simp only [List.map_toArray, List.map_cons, List.map_nil]); first | done | rfl) ?_
     refine (laws_toTerm.calls KT x0.f0 x0.f1 x0.f2 x0.f3.f0 _ _ x0.f3.f1 _ _ x0.f3.f2 _ _ x0.f4 _ _ x0.f5 x.f0 x.f1 x.f2 x.f3.f0 x.f3.f1 x.f3.f2 x.f4 x.f5 _ (Kd.C_below X1.out.1 HB.out) X1.out.2 (Kd.C_below X2.out.1 HB.out) X2.out.2 (Kd.C_below X3.out.1 HB.out) X3.out.2 (Kd.C_below X4.out.1 HB.out) X4.out.2 HT0.out).mono ?_
     rintro e w51 ⟨v4, v5, v6, v7, rfl, o4, o5, o6, o7, hb⟩
     obtain ⟨a4_, ac4_, rfl⟩ := Kd.R_slice o4
     obtain ⟨a5_, ac5_, rfl⟩ := Kd.R_slice o5
     obtain ⟨a6_, ac6_, rfl⟩ := Kd.R_slice o6
     obtain ⟨a7_, ac7_, rfl⟩ := Kd.R_slice o7
     refine ⟨.agg #[.int .i64 x.f0, .string x.f1, .int .i64 x.f2, .int .i64 x.f3.f0, .slice a4_ x.f3.f1.length ac4_, .slice a5_ x.f3.f2.length ac5_, .slice a6_ x.f4.length ac6_, .slice a7_ x.f5.length ac7_], rfl, ?_⟩
     replace HB := k_ (below_step HB.out hb)
     replace H3 := k_ (blk_below H3.out hb)
     replace H5 := k_ (blk_below H5.out hb)
     replace H8 := k_ (blk_below H8.out hb)
     replace T8 := k_ (Apt_below T8.out hb)
     replace H11 := k_ (blk_below H11.out hb)
     replace T11 := k_ (Apt_below T11.out hb)
     have E1 := k_ (And.intro (Kd.R_reads' o4).2.2 (Kd.R_reads' o4).2.1)
     have E2 := k_ (And.intro (Kd.R_reads' o5).2.2 (Kd.R_reads' o5).2.1)
     have E3 := k_ (And.intro (Kd.R_reads' o6).2.2 (Kd.R_reads' o6).2.1)
     have E4 := k_ (And.intro (Kd.R_reads' o7).2.2 (Kd.R_reads' o7).2.1)
     clear o4 o5 o6 o7 hb
     refine hK.out _ _ ⟨H3.out, H5.out⟩ (fun hHeld => ?_)
     clear hK K
     refine norm_ (a' := ?_) ?_ ?_
     rotate_left
     ·show Act.put _ (some 83) _ = _
      simp only [Act.put, sP]
      rfl
     refine two_ (i := 4) (j := 6) (Ni := some 86) (Nj := some 15) mWSub7 mWSub6 rfl rfl rfl rfl (two_of HT_.out (by kernel_rfl)) (by decide) (by decide) (fun K hK => ?_) (fun K hK => ?_)
     ·refine goes_ Tryd.func6 (by kernel_rfl) rfl #[.agg #[.int .i64 x2.f0, .string x2.f1, .int .i64 x2.f2, .int .i64 x2.f3.f0, .slice D1 x2.f3.f1.length kz1, .slice D2 x2.f3.f2.length kz2, .slice D3 x2.f4.length kz3, .slice D4 x2.f5.length kz4]] (by rfl) rfl rfl (by (try simp only [List.map_toArray, List.map_cons, List.map_nil]); first | done | rfl) ?_
      refine (laws_toTerm.calls KU x2.f0 x2.f1 x2.f2 x2.f3.f0 _ _ x2.f3.f1 _ _ x2.f3.f2 _ _ x2.f4 _ _ x2.f5 z.f0 z.f1 z.f2 z.f3.f0 z.f3.f1 z.f3.f2 z.f4 z.f5 _ (Kd.C_below Z1.out.1 HB.out) Z1.out.2 (Kd.C_below Z2.out.1 HB.out) Z2.out.2 (Kd.C_below Z3.out.1 HB.out) Z3.out.2 (Kd.C_below Z4.out.1 HB.out) Z4.out.2 HT2.out).mono ?_
      rintro e w52 ⟨v4, v5, v6, v7, rfl, o4, o5, o6, o7, hb⟩
      obtain ⟨e4_, ec4_, rfl⟩ := Kd.R_slice o4
      obtain ⟨e5_, ec5_, rfl⟩ := Kd.R_slice o5
      obtain ⟨e6_, ec6_, rfl⟩ := Kd.R_slice o6
      obtain ⟨e7_, ec7_, rfl⟩ := Kd.R_slice o7
      refine ⟨.agg #[.int .i64 z.f0, .string z.f1, .int .i64 z.f2, .int .i64 z.f3.f0, .slice e4_ z.f3.f1.length ec4_, .slice e5_ z.f3.f2.length ec5_, .slice e6_ z.f4.length ec6_, .slice e7_ z.f5.length ec7_], rfl, ?_⟩
      replace HB := k_ (below_step HB.out hb)
      replace H3 := k_ (blk_below H3.out hb)
      replace H5 := k_ (blk_below H5.out hb)
      replace H8 := k_ (blk_below H8.out hb)
      replace T8 := k_ (Apt_below T8.out hb)
      replace H11 := k_ (blk_below H11.out hb)
      replace T11 := k_ (Apt_below T11.out hb)
      replace E1 := k_ (And.intro (Kd.C_below E1.out.1 hb) E1.out.2)
      replace E2 := k_ (And.intro (Kd.C_below E2.out.1 hb) E2.out.2)
      replace E3 := k_ (And.intro (Kd.C_below E3.out.1 hb) E3.out.2)
      replace E4 := k_ (And.intro (Kd.C_below E4.out.1 hb) E4.out.2)
      have F1 := k_ (And.intro (Kd.R_reads' o4).2.2 (Kd.R_reads' o4).2.1)
      have F2 := k_ (And.intro (Kd.R_reads' o5).2.2 (Kd.R_reads' o5).2.1)
      have F3 := k_ (And.intro (Kd.R_reads' o6).2.2 (Kd.R_reads' o6).2.1)
      have F4 := k_ (And.intro (Kd.R_reads' o7).2.2 (Kd.R_reads' o7).2.1)
      clear o4 o5 o6 o7 hb
      refine hK.out _ _ ⟨H3.out, H5.out⟩ (fun hHeld => ?_)
      clear hK K
      refine norm_ (a' := ?_) ?_ ?_
      rotate_left
      ·show Act.put _ (some 86) _ = _
       simp only [Act.put, sP]
       rfl
      refine two_ (i := 5) (j := 6) (Ni := some 87) (Nj := some 15) mWSub9 mWSub8 rfl rfl rfl rfl (two_of HT_.out (by kernel_rfl)) (by decide) (by decide) (fun K hK => ?_) (fun K hK => ?_)
      ·refine goes_ Tryd.func7 (by kernel_rfl) rfl #[.agg #[.int .i64 x.f0, .string x.f1, .int .i64 x.f2, .int .i64 x.f3.f0, .slice a4_ x.f3.f1.length ac4_, .slice a5_ x.f3.f2.length ac5_, .slice a6_ x.f4.length ac6_, .slice a7_ x.f5.length ac7_], .string nm, .agg #[.int .i64 z.f0, .string z.f1, .int .i64 z.f2, .int .i64 z.f3.f0, .slice e4_ z.f3.f1.length ec4_, .slice e5_ z.f3.f2.length ec5_, .slice e6_ z.f4.length ec6_, .slice e7_ z.f5.length ec7_]] (by rfl) rfl rfl (by (try simp only [List.map_toArray, List.map_cons, List.map_nil]); first | done | rfl) ?_
       refine (SubstTerm_st (ndTerm x) x nm z SM.out SZ.out (Nat.le_refl _) NN.out a4_ ac4_ a5_ ac5_ a6_ ac6_ a7_ ac7_ e4_ ec4_ e5_ ec5_ e6_ ec6_ e7_ ec7_ _ E1.out E2.out E3.out E4.out F1.out F2.out F3.out F4.out (Laid_below HL.out HB.out)).mono ?_
       rintro e w53 ⟨hs, rfl, hE, hA, hb⟩
       rw [← HR_.out] at hE
       obtain ⟨P1T15, q1T15, P2T15, q2T15, P3T15, q3T15, P4T15, q4T15, usT15, dsT15, rfl, hus, hds⟩ := TeE_open hE hA
       refine ⟨.agg #[.int .i64 res.f0, .string res.f1, .int .i64 res.f2, .int .i64 res.f3.f0, .slice P1T15 res.f3.f1.length q1T15, .slice P2T15 res.f3.f2.length q2T15, .slice P3T15 res.f4.length q3T15, .slice P4T15 res.f5.length q4T15], rfl, ?_⟩
       have tl_ := Apt_tl (Apt_tl (Apt_tl (Apt_tl hA)))
       have D_T15_g3 := k_ (Apt_ge tl_ (blk_lt H3.out))
       have D_T15_g5 := k_ (Apt_ge tl_ (blk_lt H5.out))
       have D_T15_g8 := k_ (Apt_ge tl_ (blk_lt H8.out))
       have D_T15_g11 := k_ (Apt_ge tl_ (blk_lt H11.out))
       have T151_ := k_ (Apt_lower tl_ (below_size HB.out)); have HU_ := k_ hus; have HD_ := k_ hds
       clear E1 E2 E3 E4 F1 F2 F3 F4
       replace HB := k_ (below_step HB.out hb)
       replace H3 := k_ (blk_below H3.out hb)
       replace H5 := k_ (blk_below H5.out hb)
       replace H8 := k_ (blk_below H8.out hb)
       replace T8 := k_ (Apt_below T8.out hb)
       replace H11 := k_ (blk_below H11.out hb)
       replace T11 := k_ (Apt_below T11.out hb)
       have T15 := T151_
       clear T151_ tl_ hA hE hus hds hb
       refine hK.out _ _ ⟨H3.out, H5.out⟩ (fun hHeld => ?_)
       clear hK K
       refine norm_ (a' := ?_) ?_ ?_
       rotate_left
       ·show Act.put _ (some 87) _ = _
        simp only [Act.put, sP]
        rfl
       refine one_ (i := 6) (N := some 15) mWSub10 rfl rfl (one_of HT_.out (by kernel_rfl)) (by decide) (fun K hK => ?_)
       refine box_step ?hg (N := 15) ?hd (cs := #[.int .i64 0, .string ⟨#[]⟩, .int .i64 0, .int .i64 0, .slice none 0 0, .slice none 0 0, .slice none 0 0, .slice none 0 0]) (t := 35) ?hr ?_; (case hd => rfl); (case hg => rfl); (case hr => first | (go_simp; done) | (go_simp; rfl))
       intro g15 hg w54 hbox hb
       have N_g3_g15 := k_ (nwN hg H3.out)
       have N_g15_g3 := k_ (Ne.symm N_g3_g15.out)
       have N_g5_g15 := k_ (nwN hg H5.out)
       have N_g15_g5 := k_ (Ne.symm N_g5_g15.out)
       have N_g8_g15 := k_ (nwN hg H8.out)
       have N_g15_g8 := k_ (Ne.symm N_g8_g15.out)
       have D_T8_g15 := k_ (nwD hg T8.out)
       have N_g11_g15 := k_ (nwN hg H11.out)
       have N_g15_g11 := k_ (Ne.symm N_g11_g15.out)
       have D_T11_g15 := k_ (nwD hg T11.out)
       have D_T15_g15 := k_ (nwD hg T15.out)
       have G_g15 := k_ (nwG hg HB.out)
       replace HB := k_ (below_step HB.out hb)
       replace H3 := k_ (blk_below H3.out hb)
       replace H5 := k_ (blk_below H5.out hb)
       replace H8 := k_ (blk_below H8.out hb)
       replace T8 := k_ (Apt_below T8.out hb)
       replace H11 := k_ (blk_below H11.out hb)
       replace T11 := k_ (Apt_below T11.out hb)
       replace T15 := k_ (Apt_below T15.out hb)
       have H15 := k_ hbox
       clear hg hbox hb
       refine hK.out _ _ ⟨H3.out, H5.out⟩ (fun hHeld => ?_)
       clear hK K
       refine norm_ (a' := ?_) ?_ ?_
       rotate_left
       ·show Act.put _ (some 15) _ = _
        simp only [Act.put, sP]
        rfl
       exact norm_ (by simp only [putAll, Act.put, sP]) (hCont (.agg #[.int .i64 x.f0, .string x.f1, .int .i64 x.f2, .int .i64 x.f3.f0, .slice a4_ x.f3.f1.length ac4_, .slice a5_ x.f3.f2.length ac5_, .slice a6_ x.f4.length ac6_, .slice a7_ x.f5.length ac7_], .agg #[.int .i64 z.f0, .string z.f1, .int .i64 z.f2, .int .i64 z.f3.f0, .slice e4_ z.f3.f1.length ec4_, .slice e5_ z.f3.f2.length ec5_, .slice e6_ z.f4.length ec6_, .slice e7_ z.f5.length ec7_], (.slice P1T15 res.f3.f1.length q1T15), (.slice P2T15 res.f3.f2.length q2T15), (.slice P3T15 res.f4.length q3T15), (.slice P4T15 res.f5.length q4T15), usT15, dsT15, g15) _ ⟨hHeld, T15.out, D_T15_g15.out, HU_.out, HD_.out, HB.out, H3.out, H5.out, H8.out, T8.out, H11.out, T11.out, H15.out, G_g15.out, N_g3_g15.out, N_g5_g15.out, N_g8_g15.out, N_g11_g15.out, D_T8_g15.out, D_T11_g15.out⟩)
      ·refine box_step ?hg (N := 15) ?hd (cs := #[.int .i64 0, .string ⟨#[]⟩, .int .i64 0, .int .i64 0, .slice none 0 0, .slice none 0 0, .slice none 0 0, .slice none 0 0]) (t := 35) ?hr ?_; (case hd => rfl); (case hg => rfl); (case hr => first | (go_simp; done) | (go_simp; rfl))
       intro g15 hg w53 hbox hb
       have N_g3_g15 := k_ (nwN hg H3.out)
       have N_g15_g3 := k_ (Ne.symm N_g3_g15.out)
       have N_g5_g15 := k_ (nwN hg H5.out)
       have N_g15_g5 := k_ (Ne.symm N_g5_g15.out)
       have N_g8_g15 := k_ (nwN hg H8.out)
       have N_g15_g8 := k_ (Ne.symm N_g8_g15.out)
       have D_T8_g15 := k_ (nwD hg T8.out)
       have N_g11_g15 := k_ (nwN hg H11.out)
       have N_g15_g11 := k_ (Ne.symm N_g11_g15.out)
       have D_T11_g15 := k_ (nwD hg T11.out)
       have G_g15 := k_ (nwG hg HB.out)
       replace HB := k_ (below_step HB.out hb)
       replace H3 := k_ (blk_below H3.out hb)
       replace H5 := k_ (blk_below H5.out hb)
       replace H8 := k_ (blk_below H8.out hb)
       replace T8 := k_ (Apt_below T8.out hb)
       replace H11 := k_ (blk_below H11.out hb)
       replace T11 := k_ (Apt_below T11.out hb)
       replace E1 := k_ (And.intro (Kd.C_below E1.out.1 hb) E1.out.2)
       replace E2 := k_ (And.intro (Kd.C_below E2.out.1 hb) E2.out.2)
       replace E3 := k_ (And.intro (Kd.C_below E3.out.1 hb) E3.out.2)
       replace E4 := k_ (And.intro (Kd.C_below E4.out.1 hb) E4.out.2)
       replace F1 := k_ (And.intro (Kd.C_below F1.out.1 hb) F1.out.2)
       replace F2 := k_ (And.intro (Kd.C_below F2.out.1 hb) F2.out.2)
       replace F3 := k_ (And.intro (Kd.C_below F3.out.1 hb) F3.out.2)
       replace F4 := k_ (And.intro (Kd.C_below F4.out.1 hb) F4.out.2)
       have H15 := k_ hbox
       clear hg hbox hb
       refine hK.out _ _ ⟨H3.out, H5.out⟩ (fun hHeld => ?_)
       clear hK K
       refine norm_ (a' := ?_) ?_ ?_
       rotate_left
       ·show Act.put _ (some 15) _ = _
        simp only [Act.put, sP]
        rfl
       refine one_ (i := 5) (N := some 87) mWSub10 rfl rfl (one_of HT_.out (by kernel_rfl)) (by decide) (fun K hK => ?_)
       refine goes_ Tryd.func7 (by kernel_rfl) rfl #[.agg #[.int .i64 x.f0, .string x.f1, .int .i64 x.f2, .int .i64 x.f3.f0, .slice a4_ x.f3.f1.length ac4_, .slice a5_ x.f3.f2.length ac5_, .slice a6_ x.f4.length ac6_, .slice a7_ x.f5.length ac7_], .string nm, .agg #[.int .i64 z.f0, .string z.f1, .int .i64 z.f2, .int .i64 z.f3.f0, .slice e4_ z.f3.f1.length ec4_, .slice e5_ z.f3.f2.length ec5_, .slice e6_ z.f4.length ec6_, .slice e7_ z.f5.length ec7_]] (by rfl) rfl rfl (by (try simp only [List.map_toArray, List.map_cons, List.map_nil]); first | done | rfl) ?_
       refine (SubstTerm_st (ndTerm x) x nm z SM.out SZ.out (Nat.le_refl _) NN.out a4_ ac4_ a5_ ac5_ a6_ ac6_ a7_ ac7_ e4_ ec4_ e5_ ec5_ e6_ ec6_ e7_ ec7_ _ E1.out E2.out E3.out E4.out F1.out F2.out F3.out F4.out (Laid_below HL.out HB.out)).mono ?_
       rintro e w54 ⟨hs, rfl, hE, hA, hb⟩
       rw [← HR_.out] at hE
       obtain ⟨P1T15, q1T15, P2T15, q2T15, P3T15, q3T15, P4T15, q4T15, usT15, dsT15, rfl, hus, hds⟩ := TeE_open hE hA
       refine ⟨.agg #[.int .i64 res.f0, .string res.f1, .int .i64 res.f2, .int .i64 res.f3.f0, .slice P1T15 res.f3.f1.length q1T15, .slice P2T15 res.f3.f2.length q2T15, .slice P3T15 res.f4.length q3T15, .slice P4T15 res.f5.length q4T15], rfl, ?_⟩
       have tl_ := Apt_tl (Apt_tl (Apt_tl (Apt_tl hA)))
       have D_T15_g3 := k_ (Apt_ge tl_ (blk_lt H3.out))
       have D_T15_g5 := k_ (Apt_ge tl_ (blk_lt H5.out))
       have D_T15_g8 := k_ (Apt_ge tl_ (blk_lt H8.out))
       have D_T15_g11 := k_ (Apt_ge tl_ (blk_lt H11.out))
       have D_T15_g15 := k_ (Apt_ge tl_ (blk_lt H15.out))
       have T151_ := k_ (Apt_lower tl_ (below_size HB.out)); have HU_ := k_ hus; have HD_ := k_ hds
       clear E1 E2 E3 E4 F1 F2 F3 F4
       replace HB := k_ (below_step HB.out hb)
       replace H3 := k_ (blk_below H3.out hb)
       replace H5 := k_ (blk_below H5.out hb)
       replace H8 := k_ (blk_below H8.out hb)
       replace T8 := k_ (Apt_below T8.out hb)
       replace H11 := k_ (blk_below H11.out hb)
       replace T11 := k_ (Apt_below T11.out hb)
       replace H15 := k_ (blk_below H15.out hb)
       have T15 := T151_
       clear T151_ tl_ hA hE hus hds hb
       refine hK.out _ _ ⟨H3.out, H5.out⟩ (fun hHeld => ?_)
       clear hK K
       refine norm_ (a' := ?_) ?_ ?_
       rotate_left
       ·show Act.put _ (some 87) _ = _
        simp only [Act.put, sP]
        rfl
       exact norm_ (by simp only [putAll, Act.put, sP]) (hCont (.agg #[.int .i64 x.f0, .string x.f1, .int .i64 x.f2, .int .i64 x.f3.f0, .slice a4_ x.f3.f1.length ac4_, .slice a5_ x.f3.f2.length ac5_, .slice a6_ x.f4.length ac6_, .slice a7_ x.f5.length ac7_], .agg #[.int .i64 z.f0, .string z.f1, .int .i64 z.f2, .int .i64 z.f3.f0, .slice e4_ z.f3.f1.length ec4_, .slice e5_ z.f3.f2.length ec5_, .slice e6_ z.f4.length ec6_, .slice e7_ z.f5.length ec7_], (.slice P1T15 res.f3.f1.length q1T15), (.slice P2T15 res.f3.f2.length q2T15), (.slice P3T15 res.f4.length q3T15), (.slice P4T15 res.f5.length q4T15), usT15, dsT15, g15) _ ⟨hHeld, T15.out, D_T15_g15.out, HU_.out, HD_.out, HB.out, H3.out, H5.out, H8.out, T8.out, H11.out, T11.out, H15.out, G_g15.out, N_g3_g15.out, N_g5_g15.out, N_g8_g15.out, N_g11_g15.out, D_T8_g15.out, D_T11_g15.out⟩)
     ·refine box_step ?hg (N := 15) ?hd (cs := #[.int .i64 0, .string ⟨#[]⟩, .int .i64 0, .int .i64 0, .slice none 0 0, .slice none 0 0, .slice none 0 0, .slice none 0 0]) (t := 35) ?hr ?_; (case hd => rfl); (case hg => rfl); (case hr => first | (go_simp; done) | (go_simp; rfl))
      intro g15 hg w52 hbox hb
      have N_g3_g15 := k_ (nwN hg H3.out)
      have N_g15_g3 := k_ (Ne.symm N_g3_g15.out)
      have N_g5_g15 := k_ (nwN hg H5.out)
      have N_g15_g5 := k_ (Ne.symm N_g5_g15.out)
      have N_g8_g15 := k_ (nwN hg H8.out)
      have N_g15_g8 := k_ (Ne.symm N_g8_g15.out)
      have D_T8_g15 := k_ (nwD hg T8.out)
      have N_g11_g15 := k_ (nwN hg H11.out)
      have N_g15_g11 := k_ (Ne.symm N_g11_g15.out)
      have D_T11_g15 := k_ (nwD hg T11.out)
      have G_g15 := k_ (nwG hg HB.out)
      replace HB := k_ (below_step HB.out hb)
      replace H3 := k_ (blk_below H3.out hb)
      replace H5 := k_ (blk_below H5.out hb)
      replace H8 := k_ (blk_below H8.out hb)
      replace T8 := k_ (Apt_below T8.out hb)
      replace H11 := k_ (blk_below H11.out hb)
      replace T11 := k_ (Apt_below T11.out hb)
      replace E1 := k_ (And.intro (Kd.C_below E1.out.1 hb) E1.out.2)
      replace E2 := k_ (And.intro (Kd.C_below E2.out.1 hb) E2.out.2)
      replace E3 := k_ (And.intro (Kd.C_below E3.out.1 hb) E3.out.2)
      replace E4 := k_ (And.intro (Kd.C_below E4.out.1 hb) E4.out.2)
      have H15 := k_ hbox
      clear hg hbox hb
      refine hK.out _ _ ⟨H3.out, H5.out⟩ (fun hHeld => ?_)
      clear hK K
      refine norm_ (a' := ?_) ?_ ?_
      rotate_left
      ·show Act.put _ (some 15) _ = _
       simp only [Act.put, sP]
       rfl
      refine one_ (i := 4) (N := some 86) mWSub8 rfl rfl (one_of HT_.out (by kernel_rfl)) (by decide) (fun K hK => ?_)
      refine goes_ Tryd.func6 (by kernel_rfl) rfl #[.agg #[.int .i64 x2.f0, .string x2.f1, .int .i64 x2.f2, .int .i64 x2.f3.f0, .slice D1 x2.f3.f1.length kz1, .slice D2 x2.f3.f2.length kz2, .slice D3 x2.f4.length kz3, .slice D4 x2.f5.length kz4]] (by rfl) rfl rfl (by (try simp only [List.map_toArray, List.map_cons, List.map_nil]); first | done | rfl) ?_
      refine (laws_toTerm.calls KU x2.f0 x2.f1 x2.f2 x2.f3.f0 _ _ x2.f3.f1 _ _ x2.f3.f2 _ _ x2.f4 _ _ x2.f5 z.f0 z.f1 z.f2 z.f3.f0 z.f3.f1 z.f3.f2 z.f4 z.f5 _ (Kd.C_below Z1.out.1 HB.out) Z1.out.2 (Kd.C_below Z2.out.1 HB.out) Z2.out.2 (Kd.C_below Z3.out.1 HB.out) Z3.out.2 (Kd.C_below Z4.out.1 HB.out) Z4.out.2 HT2.out).mono ?_
      rintro e w53 ⟨v4, v5, v6, v7, rfl, o4, o5, o6, o7, hb⟩
      obtain ⟨e4_, ec4_, rfl⟩ := Kd.R_slice o4
      obtain ⟨e5_, ec5_, rfl⟩ := Kd.R_slice o5
      obtain ⟨e6_, ec6_, rfl⟩ := Kd.R_slice o6
      obtain ⟨e7_, ec7_, rfl⟩ := Kd.R_slice o7
      refine ⟨.agg #[.int .i64 z.f0, .string z.f1, .int .i64 z.f2, .int .i64 z.f3.f0, .slice e4_ z.f3.f1.length ec4_, .slice e5_ z.f3.f2.length ec5_, .slice e6_ z.f4.length ec6_, .slice e7_ z.f5.length ec7_], rfl, ?_⟩
      replace HB := k_ (below_step HB.out hb)
      replace H3 := k_ (blk_below H3.out hb)
      replace H5 := k_ (blk_below H5.out hb)
      replace H8 := k_ (blk_below H8.out hb)
      replace T8 := k_ (Apt_below T8.out hb)
      replace H11 := k_ (blk_below H11.out hb)
      replace T11 := k_ (Apt_below T11.out hb)
      replace E1 := k_ (And.intro (Kd.C_below E1.out.1 hb) E1.out.2)
      replace E2 := k_ (And.intro (Kd.C_below E2.out.1 hb) E2.out.2)
      replace E3 := k_ (And.intro (Kd.C_below E3.out.1 hb) E3.out.2)
      replace E4 := k_ (And.intro (Kd.C_below E4.out.1 hb) E4.out.2)
      replace H15 := k_ (blk_below H15.out hb)
      have F1 := k_ (And.intro (Kd.R_reads' o4).2.2 (Kd.R_reads' o4).2.1)
      have F2 := k_ (And.intro (Kd.R_reads' o5).2.2 (Kd.R_reads' o5).2.1)
      have F3 := k_ (And.intro (Kd.R_reads' o6).2.2 (Kd.R_reads' o6).2.1)
      have F4 := k_ (And.intro (Kd.R_reads' o7).2.2 (Kd.R_reads' o7).2.1)
      clear o4 o5 o6 o7 hb
      refine hK.out _ _ ⟨H3.out, H5.out⟩ (fun hHeld => ?_)
      clear hK K
      refine norm_ (a' := ?_) ?_ ?_
      rotate_left
      ·show Act.put _ (some 86) _ = _
       simp only [Act.put, sP]
       rfl
      refine one_ (i := 5) (N := some 87) mWSub10 rfl rfl (one_of HT_.out (by kernel_rfl)) (by decide) (fun K hK => ?_)
      refine goes_ Tryd.func7 (by kernel_rfl) rfl #[.agg #[.int .i64 x.f0, .string x.f1, .int .i64 x.f2, .int .i64 x.f3.f0, .slice a4_ x.f3.f1.length ac4_, .slice a5_ x.f3.f2.length ac5_, .slice a6_ x.f4.length ac6_, .slice a7_ x.f5.length ac7_], .string nm, .agg #[.int .i64 z.f0, .string z.f1, .int .i64 z.f2, .int .i64 z.f3.f0, .slice e4_ z.f3.f1.length ec4_, .slice e5_ z.f3.f2.length ec5_, .slice e6_ z.f4.length ec6_, .slice e7_ z.f5.length ec7_]] (by rfl) rfl rfl (by (try simp only [List.map_toArray, List.map_cons, List.map_nil]); first | done | rfl) ?_
      refine (SubstTerm_st (ndTerm x) x nm z SM.out SZ.out (Nat.le_refl _) NN.out a4_ ac4_ a5_ ac5_ a6_ ac6_ a7_ ac7_ e4_ ec4_ e5_ ec5_ e6_ ec6_ e7_ ec7_ _ E1.out E2.out E3.out E4.out F1.out F2.out F3.out F4.out (Laid_below HL.out HB.out)).mono ?_
      rintro e w54 ⟨hs, rfl, hE, hA, hb⟩
      rw [← HR_.out] at hE
      obtain ⟨P1T15, q1T15, P2T15, q2T15, P3T15, q3T15, P4T15, q4T15, usT15, dsT15, rfl, hus, hds⟩ := TeE_open hE hA
      refine ⟨.agg #[.int .i64 res.f0, .string res.f1, .int .i64 res.f2, .int .i64 res.f3.f0, .slice P1T15 res.f3.f1.length q1T15, .slice P2T15 res.f3.f2.length q2T15, .slice P3T15 res.f4.length q3T15, .slice P4T15 res.f5.length q4T15], rfl, ?_⟩
      have tl_ := Apt_tl (Apt_tl (Apt_tl (Apt_tl hA)))
      have D_T15_g3 := k_ (Apt_ge tl_ (blk_lt H3.out))
      have D_T15_g5 := k_ (Apt_ge tl_ (blk_lt H5.out))
      have D_T15_g8 := k_ (Apt_ge tl_ (blk_lt H8.out))
      have D_T15_g11 := k_ (Apt_ge tl_ (blk_lt H11.out))
      have D_T15_g15 := k_ (Apt_ge tl_ (blk_lt H15.out))
      have T151_ := k_ (Apt_lower tl_ (below_size HB.out)); have HU_ := k_ hus; have HD_ := k_ hds
      clear E1 E2 E3 E4 F1 F2 F3 F4
      replace HB := k_ (below_step HB.out hb)
      replace H3 := k_ (blk_below H3.out hb)
      replace H5 := k_ (blk_below H5.out hb)
      replace H8 := k_ (blk_below H8.out hb)
      replace T8 := k_ (Apt_below T8.out hb)
      replace H11 := k_ (blk_below H11.out hb)
      replace T11 := k_ (Apt_below T11.out hb)
      replace H15 := k_ (blk_below H15.out hb)
      have T15 := T151_
      clear T151_ tl_ hA hE hus hds hb
      refine hK.out _ _ ⟨H3.out, H5.out⟩ (fun hHeld => ?_)
      clear hK K
      refine norm_ (a' := ?_) ?_ ?_
      rotate_left
      ·show Act.put _ (some 87) _ = _
       simp only [Act.put, sP]
       rfl
      exact norm_ (by simp only [putAll, Act.put, sP]) (hCont (.agg #[.int .i64 x.f0, .string x.f1, .int .i64 x.f2, .int .i64 x.f3.f0, .slice a4_ x.f3.f1.length ac4_, .slice a5_ x.f3.f2.length ac5_, .slice a6_ x.f4.length ac6_, .slice a7_ x.f5.length ac7_], .agg #[.int .i64 z.f0, .string z.f1, .int .i64 z.f2, .int .i64 z.f3.f0, .slice e4_ z.f3.f1.length ec4_, .slice e5_ z.f3.f2.length ec5_, .slice e6_ z.f4.length ec6_, .slice e7_ z.f5.length ec7_], (.slice P1T15 res.f3.f1.length q1T15), (.slice P2T15 res.f3.f2.length q2T15), (.slice P3T15 res.f4.length q3T15), (.slice P4T15 res.f5.length q4T15), usT15, dsT15, g15) _ ⟨hHeld, T15.out, D_T15_g15.out, HU_.out, HD_.out, HB.out, H3.out, H5.out, H8.out, T8.out, H11.out, T11.out, H15.out, G_g15.out, N_g3_g15.out, N_g5_g15.out, N_g8_g15.out, N_g11_g15.out, D_T8_g15.out, D_T11_g15.out⟩)
    ·refine box_step ?hg (N := 15) ?hd (cs := #[.int .i64 0, .string ⟨#[]⟩, .int .i64 0, .int .i64 0, .slice none 0 0, .slice none 0 0, .slice none 0 0, .slice none 0 0]) (t := 35) ?hr ?_; (case hd => rfl); (case hg => rfl); (case hr => first | (go_simp; done) | (go_simp; rfl))
     intro g15 hg w51 hbox hb
     have N_g3_g15 := k_ (nwN hg H3.out)
     have N_g15_g3 := k_ (Ne.symm N_g3_g15.out)
     have N_g5_g15 := k_ (nwN hg H5.out)
     have N_g15_g5 := k_ (Ne.symm N_g5_g15.out)
     have N_g8_g15 := k_ (nwN hg H8.out)
     have N_g15_g8 := k_ (Ne.symm N_g8_g15.out)
     have D_T8_g15 := k_ (nwD hg T8.out)
     have N_g11_g15 := k_ (nwN hg H11.out)
     have N_g15_g11 := k_ (Ne.symm N_g11_g15.out)
     have D_T11_g15 := k_ (nwD hg T11.out)
     have G_g15 := k_ (nwG hg HB.out)
     replace HB := k_ (below_step HB.out hb)
     replace H3 := k_ (blk_below H3.out hb)
     replace H5 := k_ (blk_below H5.out hb)
     replace H8 := k_ (blk_below H8.out hb)
     replace T8 := k_ (Apt_below T8.out hb)
     replace H11 := k_ (blk_below H11.out hb)
     replace T11 := k_ (Apt_below T11.out hb)
     have H15 := k_ hbox
     clear hg hbox hb
     refine hK.out _ _ ⟨H3.out, H5.out⟩ (fun hHeld => ?_)
     clear hK K
     refine norm_ (a' := ?_) ?_ ?_
     rotate_left
     ·show Act.put _ (some 15) _ = _
      simp only [Act.put, sP]
      rfl
     refine one_ (i := 1) (N := some 83) mWSub6 rfl rfl (one_of HT_.out (by kernel_rfl)) (by decide) (fun K hK => ?_)
     refine goes_ Tryd.func6 (by kernel_rfl) rfl #[.agg #[.int .i64 x0.f0, .string x0.f1, .int .i64 x0.f2, .int .i64 x0.f3.f0, .slice A1 x0.f3.f1.length c1, .slice A2 x0.f3.f2.length c2, .slice A3 x0.f4.length c3, .slice A4 x0.f5.length c4]] (by rfl) rfl rfl (by (try simp only [List.map_toArray, List.map_cons, List.map_nil]); first | done | rfl) ?_
     refine (laws_toTerm.calls KT x0.f0 x0.f1 x0.f2 x0.f3.f0 _ _ x0.f3.f1 _ _ x0.f3.f2 _ _ x0.f4 _ _ x0.f5 x.f0 x.f1 x.f2 x.f3.f0 x.f3.f1 x.f3.f2 x.f4 x.f5 _ (Kd.C_below X1.out.1 HB.out) X1.out.2 (Kd.C_below X2.out.1 HB.out) X2.out.2 (Kd.C_below X3.out.1 HB.out) X3.out.2 (Kd.C_below X4.out.1 HB.out) X4.out.2 HT0.out).mono ?_
     rintro e w52 ⟨v4, v5, v6, v7, rfl, o4, o5, o6, o7, hb⟩
     obtain ⟨a4_, ac4_, rfl⟩ := Kd.R_slice o4
     obtain ⟨a5_, ac5_, rfl⟩ := Kd.R_slice o5
     obtain ⟨a6_, ac6_, rfl⟩ := Kd.R_slice o6
     obtain ⟨a7_, ac7_, rfl⟩ := Kd.R_slice o7
     refine ⟨.agg #[.int .i64 x.f0, .string x.f1, .int .i64 x.f2, .int .i64 x.f3.f0, .slice a4_ x.f3.f1.length ac4_, .slice a5_ x.f3.f2.length ac5_, .slice a6_ x.f4.length ac6_, .slice a7_ x.f5.length ac7_], rfl, ?_⟩
     replace HB := k_ (below_step HB.out hb)
     replace H3 := k_ (blk_below H3.out hb)
     replace H5 := k_ (blk_below H5.out hb)
     replace H8 := k_ (blk_below H8.out hb)
     replace T8 := k_ (Apt_below T8.out hb)
     replace H11 := k_ (blk_below H11.out hb)
     replace T11 := k_ (Apt_below T11.out hb)
     replace H15 := k_ (blk_below H15.out hb)
     have E1 := k_ (And.intro (Kd.R_reads' o4).2.2 (Kd.R_reads' o4).2.1)
     have E2 := k_ (And.intro (Kd.R_reads' o5).2.2 (Kd.R_reads' o5).2.1)
     have E3 := k_ (And.intro (Kd.R_reads' o6).2.2 (Kd.R_reads' o6).2.1)
     have E4 := k_ (And.intro (Kd.R_reads' o7).2.2 (Kd.R_reads' o7).2.1)
     clear o4 o5 o6 o7 hb
     refine hK.out _ _ ⟨H3.out, H5.out⟩ (fun hHeld => ?_)
     clear hK K
     refine norm_ (a' := ?_) ?_ ?_
     rotate_left
     ·show Act.put _ (some 83) _ = _
      simp only [Act.put, sP]
      rfl
     refine one_ (i := 4) (N := some 86) mWSub8 rfl rfl (one_of HT_.out (by kernel_rfl)) (by decide) (fun K hK => ?_)
     refine goes_ Tryd.func6 (by kernel_rfl) rfl #[.agg #[.int .i64 x2.f0, .string x2.f1, .int .i64 x2.f2, .int .i64 x2.f3.f0, .slice D1 x2.f3.f1.length kz1, .slice D2 x2.f3.f2.length kz2, .slice D3 x2.f4.length kz3, .slice D4 x2.f5.length kz4]] (by rfl) rfl rfl (by (try simp only [List.map_toArray, List.map_cons, List.map_nil]); first | done | rfl) ?_
     refine (laws_toTerm.calls KU x2.f0 x2.f1 x2.f2 x2.f3.f0 _ _ x2.f3.f1 _ _ x2.f3.f2 _ _ x2.f4 _ _ x2.f5 z.f0 z.f1 z.f2 z.f3.f0 z.f3.f1 z.f3.f2 z.f4 z.f5 _ (Kd.C_below Z1.out.1 HB.out) Z1.out.2 (Kd.C_below Z2.out.1 HB.out) Z2.out.2 (Kd.C_below Z3.out.1 HB.out) Z3.out.2 (Kd.C_below Z4.out.1 HB.out) Z4.out.2 HT2.out).mono ?_
     rintro e w53 ⟨v4, v5, v6, v7, rfl, o4, o5, o6, o7, hb⟩
     obtain ⟨e4_, ec4_, rfl⟩ := Kd.R_slice o4
     obtain ⟨e5_, ec5_, rfl⟩ := Kd.R_slice o5
     obtain ⟨e6_, ec6_, rfl⟩ := Kd.R_slice o6
     obtain ⟨e7_, ec7_, rfl⟩ := Kd.R_slice o7
     refine ⟨.agg #[.int .i64 z.f0, .string z.f1, .int .i64 z.f2, .int .i64 z.f3.f0, .slice e4_ z.f3.f1.length ec4_, .slice e5_ z.f3.f2.length ec5_, .slice e6_ z.f4.length ec6_, .slice e7_ z.f5.length ec7_], rfl, ?_⟩
     replace HB := k_ (below_step HB.out hb)
     replace H3 := k_ (blk_below H3.out hb)
     replace H5 := k_ (blk_below H5.out hb)
     replace H8 := k_ (blk_below H8.out hb)
     replace T8 := k_ (Apt_below T8.out hb)
     replace H11 := k_ (blk_below H11.out hb)
     replace T11 := k_ (Apt_below T11.out hb)
     replace H15 := k_ (blk_below H15.out hb)
     replace E1 := k_ (And.intro (Kd.C_below E1.out.1 hb) E1.out.2)
     replace E2 := k_ (And.intro (Kd.C_below E2.out.1 hb) E2.out.2)
     replace E3 := k_ (And.intro (Kd.C_below E3.out.1 hb) E3.out.2)
     replace E4 := k_ (And.intro (Kd.C_below E4.out.1 hb) E4.out.2)
     have F1 := k_ (And.intro (Kd.R_reads' o4).2.2 (Kd.R_reads' o4).2.1)
     have F2 := k_ (And.intro (Kd.R_reads' o5).2.2 (Kd.R_reads' o5).2.1)
     have F3 := k_ (And.intro (Kd.R_reads' o6).2.2 (Kd.R_reads' o6).2.1)
     have F4 := k_ (And.intro (Kd.R_reads' o7).2.2 (Kd.R_reads' o7).2.1)
     clear o4 o5 o6 o7 hb
     refine hK.out _ _ ⟨H3.out, H5.out⟩ (fun hHeld => ?_)
     clear hK K
     refine norm_ (a' := ?_) ?_ ?_
     rotate_left
     ·show Act.put _ (some 86) _ = _
      simp only [Act.put, sP]
      rfl
     refine one_ (i := 5) (N := some 87) mWSub10 rfl rfl (one_of HT_.out (by kernel_rfl)) (by decide) (fun K hK => ?_)
     refine goes_ Tryd.func7 (by kernel_rfl) rfl #[.agg #[.int .i64 x.f0, .string x.f1, .int .i64 x.f2, .int .i64 x.f3.f0, .slice a4_ x.f3.f1.length ac4_, .slice a5_ x.f3.f2.length ac5_, .slice a6_ x.f4.length ac6_, .slice a7_ x.f5.length ac7_], .string nm, .agg #[.int .i64 z.f0, .string z.f1, .int .i64 z.f2, .int .i64 z.f3.f0, .slice e4_ z.f3.f1.length ec4_, .slice e5_ z.f3.f2.length ec5_, .slice e6_ z.f4.length ec6_, .slice e7_ z.f5.length ec7_]] (by rfl) rfl rfl (by (try simp only [List.map_toArray, List.map_cons, List.map_nil]); first | done | rfl) ?_
     refine (SubstTerm_st (ndTerm x) x nm z SM.out SZ.out (Nat.le_refl _) NN.out a4_ ac4_ a5_ ac5_ a6_ ac6_ a7_ ac7_ e4_ ec4_ e5_ ec5_ e6_ ec6_ e7_ ec7_ _ E1.out E2.out E3.out E4.out F1.out F2.out F3.out F4.out (Laid_below HL.out HB.out)).mono ?_
     rintro e w54 ⟨hs, rfl, hE, hA, hb⟩
     rw [← HR_.out] at hE
     obtain ⟨P1T15, q1T15, P2T15, q2T15, P3T15, q3T15, P4T15, q4T15, usT15, dsT15, rfl, hus, hds⟩ := TeE_open hE hA
     refine ⟨.agg #[.int .i64 res.f0, .string res.f1, .int .i64 res.f2, .int .i64 res.f3.f0, .slice P1T15 res.f3.f1.length q1T15, .slice P2T15 res.f3.f2.length q2T15, .slice P3T15 res.f4.length q3T15, .slice P4T15 res.f5.length q4T15], rfl, ?_⟩
     have tl_ := Apt_tl (Apt_tl (Apt_tl (Apt_tl hA)))
     have D_T15_g3 := k_ (Apt_ge tl_ (blk_lt H3.out))
     have D_T15_g5 := k_ (Apt_ge tl_ (blk_lt H5.out))
     have D_T15_g8 := k_ (Apt_ge tl_ (blk_lt H8.out))
     have D_T15_g11 := k_ (Apt_ge tl_ (blk_lt H11.out))
     have D_T15_g15 := k_ (Apt_ge tl_ (blk_lt H15.out))
     have T151_ := k_ (Apt_lower tl_ (below_size HB.out)); have HU_ := k_ hus; have HD_ := k_ hds
     clear E1 E2 E3 E4 F1 F2 F3 F4
     replace HB := k_ (below_step HB.out hb)
     replace H3 := k_ (blk_below H3.out hb)
     replace H5 := k_ (blk_below H5.out hb)
     replace H8 := k_ (blk_below H8.out hb)
     replace T8 := k_ (Apt_below T8.out hb)
     replace H11 := k_ (blk_below H11.out hb)
     replace T11 := k_ (Apt_below T11.out hb)
     replace H15 := k_ (blk_below H15.out hb)
     have T15 := T151_
     clear T151_ tl_ hA hE hus hds hb
     refine hK.out _ _ ⟨H3.out, H5.out⟩ (fun hHeld => ?_)
     clear hK K
     refine norm_ (a' := ?_) ?_ ?_
     rotate_left
     ·show Act.put _ (some 87) _ = _
      simp only [Act.put, sP]
      rfl
     exact norm_ (by simp only [putAll, Act.put, sP]) (hCont (.agg #[.int .i64 x.f0, .string x.f1, .int .i64 x.f2, .int .i64 x.f3.f0, .slice a4_ x.f3.f1.length ac4_, .slice a5_ x.f3.f2.length ac5_, .slice a6_ x.f4.length ac6_, .slice a7_ x.f5.length ac7_], .agg #[.int .i64 z.f0, .string z.f1, .int .i64 z.f2, .int .i64 z.f3.f0, .slice e4_ z.f3.f1.length ec4_, .slice e5_ z.f3.f2.length ec5_, .slice e6_ z.f4.length ec6_, .slice e7_ z.f5.length ec7_], (.slice P1T15 res.f3.f1.length q1T15), (.slice P2T15 res.f3.f2.length q2T15), (.slice P3T15 res.f4.length q3T15), (.slice P4T15 res.f5.length q4T15), usT15, dsT15, g15) _ ⟨hHeld, T15.out, D_T15_g15.out, HU_.out, HD_.out, HB.out, H3.out, H5.out, H8.out, T8.out, H11.out, T11.out, H15.out, G_g15.out, N_g3_g15.out, N_g5_g15.out, N_g8_g15.out, N_g11_g15.out, D_T8_g15.out, D_T11_g15.out⟩)
   rintro ⟨v30, v33, v1, v2, v3, v4, usT15, dsT15, g15⟩ w56 ⟨hHeld, f0_, f1_, fu_, fd_, g0_, g1_, g2_, g3_, g4_, g5_, g6_, fb_, fg_, n0_, n1_, n2_, n3_, d0_, d1_⟩
   dsimp only at hHeld f0_ f1_ fu_ fd_ g0_ g1_ g2_ g3_ g4_ g5_ g6_ fb_ fg_ n0_ n1_ n2_ n3_ d0_ d1_ ⊢
   obtain ⟨P1T15, q1T15, rfl⟩ := str_slice (Apt_one (a := []) (b := [.row 32 3 res.f3.f2.length v2 usT15, strR v3 res.f4, .row 35 8 res.f5.length v4 dsT15]) f0_)
   obtain ⟨P2T15, q2T15, rfl⟩ := row_slice (Apt_one (a := [strR (.slice P1T15 res.f3.f1.length q1T15) res.f3.f1]) (b := [strR v3 res.f4, .row 35 8 res.f5.length v4 dsT15]) f0_)
   obtain ⟨P3T15, q3T15, rfl⟩ := str_slice (Apt_one (a := [strR (.slice P1T15 res.f3.f1.length q1T15) res.f3.f1, .row 32 3 res.f3.f2.length (.slice P2T15 res.f3.f2.length q2T15) usT15]) (b := [.row 35 8 res.f5.length v4 dsT15]) f0_)
   obtain ⟨P4T15, q4T15, rfl⟩ := row_slice (Apt_one (a := [strR (.slice P1T15 res.f3.f1.length q1T15) res.f3.f1, .row 32 3 res.f3.f2.length (.slice P2T15 res.f3.f2.length q2T15) usT15, strR (.slice P3T15 res.f4.length q3T15) res.f4]) (b := []) f0_)
   clear HB H3 H5 H8 T8 H11 T11
   have HB := k_ g0_
   have H3 := k_ g1_
   have H5 := k_ g2_
   have H8 := k_ g3_
   have T8 := k_ g4_
   have H11 := k_ g5_
   have T11 := k_ g6_
   have T15 := k_ f0_; have HUT15 := k_ fu_; have HDT15 := k_ fd_; have D_T15_g15 := k_ f1_; have H15 := k_ fb_; have G_g15 := k_ fg_
   have N_g3_g15 := k_ n0_; have N_g15_g3 := k_ (Ne.symm n0_)
   have N_g5_g15 := k_ n1_; have N_g15_g5 := k_ (Ne.symm n1_)
   have N_g8_g15 := k_ n2_; have N_g15_g8 := k_ (Ne.symm n2_)
   have N_g11_g15 := k_ n3_; have N_g15_g11 := k_ (Ne.symm n3_)
   have D_T8_g15 := k_ d0_
   have D_T11_g15 := k_ d1_
   clear f0_ f1_ fu_ fd_ g0_ g1_ g2_ g3_ g4_ g5_ g6_ fb_ fg_ n0_ n1_ n2_ n3_ d0_ d1_
   refine norm_ (a' := ?_) ?_ ?_
   rotate_left
   ·simp only [putAll, Act.put, sP]
    rfl
   refine one_ (i := 7) (N := none) mWSub11 rfl rfl (one_of HT_.out (by kernel_rfl)) (by decide) (fun K hK => ?_)
   have r1824 := blk8 H15.out
   have z1825 := blf8 H15.out
   refine skip_ (w1 := w56.setCells g15 0 [.int .i64 res.f0, .string res.f1, .int .i64 res.f2, .int .i64 res.f3.f0, .slice P1T15 res.f3.f1.length q1T15, .slice P2T15 res.f3.f2.length q2T15, .slice P3T15 res.f4.length q3T15, .slice P4T15 res.f5.length q4T15]) (by rfl) rfl (by go_simp; rfl) ?_
   obtain ⟨w57, hw⟩ : ∃ w_, w_ = w56.setCells g15 0 [.int .i64 res.f0, .string res.f1, .int .i64 res.f2, .int .i64 res.f3.f0, .slice P1T15 res.f3.f1.length q1T15, .slice P2T15 res.f3.f2.length q2T15, .slice P3T15 res.f4.length q3T15, .slice P4T15 res.f5.length q4T15] := ⟨_, rfl⟩
   rw [← hw]
   replace HB := k_ (bew hw HB.out G_g15.out)
   replace H3 := k_ (bfw hw H3.out N_g3_g15.out)
   replace H5 := k_ (bfw hw H5.out N_g5_g15.out)
   replace H8 := k_ (bfw hw H8.out N_g8_g15.out)
   replace T8 := k_ (apw hw T8.out D_T8_g15.out)
   replace H11 := k_ (bfw hw H11.out N_g11_g15.out)
   replace T11 := k_ (apw hw T11.out D_T11_g15.out)
   replace H15 := k_ (show w57.heap[g15]? = some (.cells #[.int .i64 res.f0, .string res.f1, .int .i64 res.f2, .int .i64 res.f3.f0, .slice P1T15 res.f3.f1.length q1T15, .slice P2T15 res.f3.f2.length q2T15, .slice P3T15 res.f4.length q3T15, .slice P4T15 res.f5.length q4T15] 35 (0, 0)) from bsw hw H15.out (by simp only [putA, sP, Nat.zero_add, Nat.reduceAdd]))
   replace T15 := k_ (apw hw T15.out D_T15_g15.out)
   clear hw
   refine hK.out _ _ ⟨H3.out, H5.out⟩ (fun hHeld => ?_)
   clear hK K
   refine done_ (done_of HT_.out (by kernel_rfl)) ?_
   clear HT_ HW_
   clear hHeld
   have mkC_ := True.intro; have mkD_ := True.intro
   have r1826 := blk8 H15.out
   have r1827 := blk8 H8.out
   go_wp2_with (first | (go_at_call 8; clear mkC_; have TC := TeE_C4 T15.out HUT15.out HDT15.out; have TD := TeE_C4 T8.out HUT8.out HDT8.out; refine (laws_eqTerm.calls KR res.f0 res.f1 res.f2 res.f3.f0 _ _ res.f3.f1 _ _ res.f3.f2 _ _ res.f4 _ _ res.f5 res.f0 res.f1 res.f2 res.f3.f0 _ _ res.f3.f1 _ _ res.f3.f2 _ _ res.f4 _ _ res.f5 true _ TC.1.1 TC.1.2 TC.2.1.1 TC.2.1.2 TC.2.2.1.1 TC.2.2.1.2 TC.2.2.2.1 TC.2.2.2.2 TD.1.1 TD.1.2 TD.2.1.1 TD.2.1.2 TD.2.2.1.1 TD.2.2.1.2 TD.2.2.2.1 TD.2.2.2.2 HER.out).mono ?_; rintro e w60 ⟨rfl, hb⟩; replace HB := k_ (below_step HB.out hb); replace H3 := k_ (blk_below H3.out hb); replace H5 := k_ (blk_below H5.out hb); replace H8 := k_ (blk_below H8.out hb); replace T8 := k_ (Apt_below T8.out hb); replace H11 := k_ (blk_below H11.out hb); replace T11 := k_ (Apt_below T11.out hb); replace H15 := k_ (blk_below H15.out hb); replace T15 := k_ (Apt_below T15.out hb); clear TC TD hb; have r1828 := blk8 H11.out) | (go_at_call 10; clear mkD_; have TC := TeE_C4 (y := y) T11.out HUy.out HDy.out; refine (laws_heldTerm.calls KH res.f0 res.f1 res.f2 res.f3.f0 _ _ y.f3.f1 _ _ y.f3.f2 _ _ y.f4 _ _ y.f5 1 cv _ TC.1.1 TC.1.2 TC.2.1.1 TC.2.1.2 TC.2.2.1.1 TC.2.2.1.2 TC.2.2.2.1 TC.2.2.2.2 HH.out).mono ?_; rintro e w61 ⟨rfl, hb⟩; replace HB := k_ (below_step HB.out hb); replace H3 := k_ (blk_below H3.out hb); replace H5 := k_ (blk_below H5.out hb); replace H8 := k_ (blk_below H8.out hb); replace T8 := k_ (Apt_below T8.out hb); replace H11 := k_ (blk_below H11.out hb); replace T11 := k_ (Apt_below T11.out hb); replace H15 := k_ (blk_below H15.out hb); replace T15 := k_ (Apt_below T15.out hb); clear TC hb))
   go_ret
   exact ⟨rfl, HB.out⟩
end Go.Proofs.YtpckkjeapfdilaaDoor.Px
