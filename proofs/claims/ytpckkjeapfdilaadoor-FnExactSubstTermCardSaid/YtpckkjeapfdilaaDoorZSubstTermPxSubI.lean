/- impl.SubstTerm: what comes back is subF, in blocks of its own, all different. No condition beyond the sizes named. -/
import Derived.Test.YtpckkjeapfdilaaDoorZSubstTermPx0M
import Derived.Test.YtpckkjeapfdilaaDoorZSubstTermPxMkEM
import Derived.Test.YtpckkjeapfdilaaDoorZSubstTermPxCloTM
import Derived.Test.YtpckkjeapfdilaaDoorZSubstTermPlM
import Derived.Test.YtpckkjeapfdilaaDoorZSubstTermPx5M
import Derived.Test.YtpckkjeapfdilaaDoorZSubstTermPx6M
import Derived.Laws.EntriesVeiled
import Derived.Test.YtpckkjeapfdilaaDoorZSubstTermWLastM
import Derived.Tactics2
import Derived.BigCall
namespace Go.Proofs.YtpckkjeapfdilaaDoor.Px
open Go.RowKit Go.Proofs.YtpckkjeapfdilaaDoorW.PrintWords Go.Proofs.YtpckkjeapfdilaaDoorW.PrintLast Go.Proofs.YtpckkjeapfdilaaDoorW.PrintMore Go.Proofs.YtpckkjeapfdilaaDoor.Pl Go.Proofs.YtpckkjeapfdilaaDoor.Ext
set_option linter.unusedVariables false
set_option linter.unusedSimpArgs false
def mSubI0 : Array Bool := #[false, false, false, false, false, false, false, false, false, false, false, false]
def mSubI1 : Array Bool := #[true, false, false, false, false, false, false, false, false, false, false, false]
def mSubI2 : Array Bool := #[true, false, false, true, false, false, false, false, false, false, false, false]
def mSubI3 : Array Bool := #[true, true, false, true, false, false, false, false, false, false, false, false]
def mSubI4 : Array Bool := #[true, true, false, true, true, false, false, false, false, false, false, false]
def mSubI5 : Array Bool := #[true, true, true, true, true, false, false, false, false, false, false, false]
def mSubI6 : Array Bool := #[true, true, true, true, true, false, true, false, false, false, false, false]
def mSubI7 : Array Bool := #[true, true, true, true, true, true, true, false, false, false, false, false]
def mSubI8 : Array Bool := #[true, true, true, true, true, true, true, true, false, false, false, false]
def mSubI9 : Array Bool := #[true, true, true, true, true, true, true, true, true, false, false, false]
def mSubI10 : Array Bool := #[true, true, true, true, true, true, true, true, true, true, false, false]
def mSubI11 : Array Bool := #[true, true, true, true, true, true, true, true, true, true, true, false]
def mSubI12 : Array Bool := #[true, true, true, true, true, true, true, true, true, true, true, true]
def mSubI13 : Array Bool := #[false, false, false, false, false, false, false, false, false, false]
def mSubI14 : Array Bool := #[true, false, false, false, false, false, false, false, false, false]
def mSubI15 : Array Bool := #[true, false, true, false, false, false, false, false, false, false]
def mSubI16 : Array Bool := #[true, false, false, true, false, false, false, false, false, false]
def mSubI17 : Array Bool := #[true, false, true, true, false, false, false, false, false, false]
def mSubI18 : Array Bool := #[true, true, false, true, false, false, false, false, false, false]
def mSubI19 : Array Bool := #[true, true, true, true, false, false, false, false, false, false]
def mSubI20 : Array Bool := #[true, true, true, true, true, false, false, false, false, false]
def mSubI21 : Array Bool := #[true, true, true, true, true, true, false, false, false, false]
def mSubI22 : Array Bool := #[true, true, true, true, true, true, true, false, false, false]
def mSubI23 : Array Bool := #[true, true, true, true, true, true, true, true, false, false]
def mSubI24 : Array Bool := #[true, true, true, true, true, true, true, true, true, false]
def mSubI25 : Array Bool := #[true, true, true, true, true, true, true, true, true, true]
def mSubI26 : Array Bool := #[false, false, false, false, false, false, false, false]
def mSubI27 : Array Bool := #[true, false, false, false, false, false, false, false]
def mSubI28 : Array Bool := #[true, true, false, false, false, false, false, false]
def mSubI29 : Array Bool := #[true, true, true, false, false, false, false, false]
def mSubI30 : Array Bool := #[true, true, true, true, false, false, false, false]
def mSubI31 : Array Bool := #[true, true, true, true, true, false, false, false]
def mSubI32 : Array Bool := #[true, true, true, true, true, true, false, false]
def mSubI33 : Array Bool := #[false, false, false, false, false, false, false]
def mSubI34 : Array Bool := #[true, true, true, true, true, true, true, false]
def mSubI35 : Array Bool := #[true, true, true, true, true, true, true, true]
def mSubI36 : Array Bool := #[true, false, false, false, false, false, false]
def mSubI37 : Array Bool := #[true, true, false, false, false, false, false]
def mSubI38 : Array Bool := #[true, true, true, false, false, false, false]
def mSubI39 : Array Bool := #[true, true, true, true, false, false, false]
def mSubI40 : Array Bool := #[true, true, true, true, true, false, false]
def mSubI41 : Array Bool := #[true, true, true, true, true, true, false]
def mSubI42 : Array Bool := #[true, true, true, true, true, true, true]
def tabS.T4 : Bool × List (List Nat × List Nat) := (true, [([], []), ([0], [0]), ([1], [1]), ([], []), ([3], [3]), ([4, 2], [4]), ([0, 1, 2], []), ([6, 2, 5, 0, 1, 2], [2, 6]), ([0, 1, 2, 3, 4, 5, 6, 7], []), ([8, 5, 7, 0, 1, 2, 3, 4, 5, 6, 7], [5, 8]), ([0, 1, 2, 3, 4, 5, 6, 7, 8, 9], []), ([10, 9, 0, 1, 2, 3, 4, 5, 6, 7, 8, 9], [10])])
def tabS.B4 : List Nat := [0, 1, 3, 0, 8, 31, 7, 127, 255, 511, 1023, 2047]
theorem tabS.tab4 : rtab .any (opsOf Tryd.f7 4) = tabS.T4 := by kernel_rfl
theorem tabS.bits4 : waitsOk tabS.T4.2 tabS.B4 = true := by kernel_rfl
def tabS.T9 : Bool × List (List Nat × List Nat) := (true, [([], []), ([0], [0]), ([], []), ([2], [2]), ([1, 3, 1], [1, 3]), ([4, 4], [4]), ([5], [5]), ([5], [5]), ([6, 7, 5, 5], [5, 6, 7]), ([5, 8], [5, 8])])
def tabS.B9 : List Nat := [0, 1, 0, 4, 15, 31, 63, 63, 255, 511]
theorem tabS.tab9 : rtab .any (opsOf Tryd.f7 9) = tabS.T9 := by kernel_rfl
theorem tabS.bits9 : waitsOk tabS.T9.2 tabS.B9 = true := by kernel_rfl
def tabS.T12 : Bool × List (List Nat × List Nat) := (true, [([], []), ([], []), ([1], [1]), ([], []), ([3], [3]), ([0, 2, 4, 4], [0, 2, 4]), ([5, 5, 0, 1, 2, 3, 4, 5], [5])])
def tabS.B12 : List Nat := [0, 0, 2, 0, 8, 31, 63]
theorem tabS.tab12 : rtab .any (opsOf Tryd.f7 12) = tabS.T12 := by kernel_rfl
theorem tabS.bits12 : waitsOk tabS.T12.2 tabS.B12 = true := by kernel_rfl
def tabS.T13 : Bool × List (List Nat × List Nat) := (true, [([], []), ([0], [0]), ([], []), ([], []), ([], []), ([2, 3, 4], [2, 3, 4]), ([5], [5]), ([1, 6, 5], [1, 6]), ([0, 1, 2, 3, 4, 5, 6, 7], []), ([8, 7, 7, 0, 1, 2, 3, 4, 5, 6, 7], [7, 8])])
def tabS.B13 : List Nat := [0, 1, 0, 0, 0, 28, 60, 127, 255, 511]
theorem tabS.tab13 : rtab .any (opsOf Tryd.f7 13) = tabS.T13 := by kernel_rfl
theorem tabS.bits13 : waitsOk tabS.T13.2 tabS.B13 = true := by kernel_rfl
def tabS.T15 : Bool × List (List Nat × List Nat) := (true, [([], []), ([0], [0]), ([], []), ([], []), ([], []), ([2, 3, 4], [2, 3, 4]), ([5], [5]), ([1, 6, 5], [1, 6]), ([0, 1, 2, 3, 4, 5, 6, 7], []), ([8, 7, 7, 0, 1, 2, 3, 4, 5, 6, 7], [7, 8])])
def tabS.B15 : List Nat := [0, 1, 0, 0, 0, 28, 60, 127, 255, 511]
theorem tabS.tab15 : rtab .any (opsOf Tryd.f7 15) = tabS.T15 := by kernel_rfl
theorem tabS.bits15 : waitsOk tabS.T15.2 tabS.B15 = true := by kernel_rfl
def tabS.T17 : Bool × List (List Nat × List Nat) := (true, [([], []), ([0], [0]), ([], []), ([2], [2]), ([3], [3]), ([1, 4, 3], [1, 4]), ([0, 1, 2, 3, 4, 5], []), ([6, 5, 5, 0, 1, 2, 3, 4, 5], [5, 6])])
def tabS.B17 : List Nat := [0, 1, 0, 4, 12, 31, 63, 127]
theorem tabS.tab17 : rtab .any (opsOf Tryd.f7 17) = tabS.T17 := by kernel_rfl
theorem tabS.bits17 : waitsOk tabS.T17.2 tabS.B17 = true := by kernel_rfl
set_option maxHeartbeats 8000000 in
set_option maxRecDepth 100000 in
theorem SubstTerm_st : ∀ (k : Nat) (x : S35) (nm : ByteArray) (z : S35), SmTerm x → SmTerm z → ndTerm x ≤ k → ndTerm x + ndTerm z ≤ 1048578 → ∀ (A1 : Option Addr) (c1 : Nat) (A2 : Option Addr) (c2 : Nat) (A3 : Option Addr) (c3 : Nat) (A4 : Option Addr) (c4 : Nat) (D1 : Option Addr) (kz1 : Nat) (D2 : Option Addr) (kz2 : Nat) (D3 : Option Addr) (kz3 : Nat) (D4 : Option Addr) (kz4 : Nat) (w : World) (h1 : Kd.C Kd.string w A1 x.f3.f1.length x.f3.f1 ∧ x.f3.f1.length ≤ c1) (h2 : Kd.C k32 w A2 x.f3.f2.length x.f3.f2 ∧ x.f3.f2.length ≤ c2) (h3 : Kd.C Kd.string w A3 x.f4.length x.f4 ∧ x.f4.length ≤ c3) (h4 : Kd.C k35 w A4 x.f5.length x.f5 ∧ x.f5.length ≤ c4) (g1 : Kd.C Kd.string w D1 z.f3.f1.length z.f3.f1 ∧ z.f3.f1.length ≤ kz1) (g2 : Kd.C k32 w D2 z.f3.f2.length z.f3.f2 ∧ z.f3.f2.length ≤ kz2) (g3 : Kd.C Kd.string w D3 z.f4.length z.f4 ∧ z.f4.length ≤ kz3) (g4 : Kd.C k35 w D4 z.f5.length z.f5 ∧ z.f5.length ≤ kz4) (hL : Laid w),
  Calls Tryd.prog 7 #[.agg #[.int .i64 x.f0, .string x.f1, .int .i64 x.f2, .int .i64 x.f3.f0, .slice A1 x.f3.f1.length c1, .slice A2 x.f3.f2.length c2, .slice A3 x.f4.length c3, .slice A4 x.f5.length c4], .string nm, .agg #[.int .i64 z.f0, .string z.f1, .int .i64 z.f2, .int .i64 z.f3.f0, .slice D1 z.f3.f1.length kz1, .slice D2 z.f3.f2.length kz2, .slice D3 z.f4.length kz3, .slice D4 z.f5.length kz4]] w fun e w' => ∃ hs : List HT, e = .returned (.agg (hs.map HT.val).toArray) ∧ TeE (subF k x nm z) hs ∧ Apt w' w.heap.size hs ∧ Below w.heap.size w w' := by
 intro k
 induction k with
 | zero => intro x nm z _ _ hk; exact absurd hk (by have := nd_pos x; omega)
 | succ k ih =>
  intro x nm z hs hz hk hn A1 c1 A2 c2 A3 c3 A4 c4 D1 kz1 D2 kz2 D3 kz3 D4 kz4 w h1 h2 h3 h4 g1 g2 g3 g4 hL
  have IH := k_ ih; have SM := k_ hs; have SZ := k_ hz; have NK := k_ hk; have NN := k_ hn; have R1 := k_ h1; have R2 := k_ h2; have R3 := k_ h3; have R4 := k_ h4; have Z1 := k_ g1; have Z2 := k_ g2; have Z3 := k_ g3; have Z4 := k_ g4; have HL := k_ hL; have HB := k_ (Below.refl w.heap.size w)
  clear ih hs hz hk hn h1 h2 h3 h4 g1 g2 g3 g4 hL
  have hu35 := Tryd.underlying35
  have hu32 := Tryd.underlying32
  go_enter Tryd.func7, Tryd.ntmps7
  go_upto_region 1 with (first | ((with_reducible refine gate_dst (N := 3) rfl ?_); refine box_event ?hg (N := 3) ?hd (cs := #[.int .i64 x.f0, .string x.f1, .int .i64 x.f2, .int .i64 x.f3.f0, .slice A1 x.f3.f1.length c1, .slice A2 x.f3.f2.length c2, .slice A3 x.f4.length c3, .slice A4 x.f5.length c4]) (t := 35) ?hr ?_; (case hd => rfl); (case hg => rfl); (case hr => first | (go_simp; done) | (go_simp; rfl)); intro gx hg w1 hbox hb; have G_gx := k_ (nwG hg HB.out); replace HB := k_ (below_step HB.out hb); have HX := k_ hbox; clear hg hbox hb) | ((with_reducible refine gate_dst (N := 5) rfl ?_); refine box_event ?hg (N := 5) ?hd (cs := #[.int .i64 z.f0, .string z.f1, .int .i64 z.f2, .int .i64 z.f3.f0, .slice D1 z.f3.f1.length kz1, .slice D2 z.f3.f2.length kz2, .slice D3 z.f4.length kz3, .slice D4 z.f5.length kz4]) (t := 35) ?hr ?_; (case hd => rfl); (case hg => rfl); (case hr => first | (go_simp; done) | (go_simp; rfl)); intro gy hg w2 hbox hb; have N_gx_gy := k_ (nwN hg HX.out); have N_gy_gx := k_ (Ne.symm N_gx_gy.out); have G_gy := k_ (nwG hg HB.out); replace HB := k_ (below_step HB.out hb); replace HX := k_ (blk_below HX.out hb); have HZ := k_ hbox; clear hg hbox hb) | ((with_reducible refine gate_dst (N := 6) rfl ?_); refine box_event ?hg (N := 6) ?hd (cs := #[.int .i64 0, .string ⟨#[]⟩, .int .i64 0, .int .i64 0, .slice none 0 0, .slice none 0 0, .slice none 0 0, .slice none 0 0]) (t := 35) ?hr ?_; (case hd => rfl); (case hg => rfl); (case hr => first | (go_simp; done) | (go_simp; rfl)); intro gr hg w3 hbox hb; have N_gx_gr := k_ (nwN hg HX.out); have N_gr_gx := k_ (Ne.symm N_gx_gr.out); have N_gy_gr := k_ (nwN hg HZ.out); have N_gr_gy := k_ (Ne.symm N_gy_gr.out); have G_gr := k_ (nwG hg HB.out); replace HB := k_ (below_step HB.out hb); replace HX := k_ (blk_below HX.out hb); replace HZ := k_ (blk_below HZ.out hb); have HR := k_ hbox; clear hg hbox hb))
  (try simp only [Act.put, sP])
  go_cut [20] (fun v20 w' => ∃ b : Bool, v20 = .bool b ∧ Aside0 (b = true ↔ x.f0 = 1 ∧ x.f1 = nm) ∧ Aside0 (w'.heap[gx]? = some (.cells #[.int .i64 x.f0, .string x.f1, .int .i64 x.f2, .int .i64 x.f3.f0, .slice A1 x.f3.f1.length c1, .slice A2 x.f3.f2.length c2, .slice A3 x.f4.length c3, .slice A4 x.f5.length c4] 35 (0, 0))) ∧ Aside0 (w'.heap[gy]? = some (.cells #[.int .i64 z.f0, .string z.f1, .int .i64 z.f2, .int .i64 z.f3.f0, .slice D1 z.f3.f1.length kz1, .slice D2 z.f3.f2.length kz2, .slice D3 z.f4.length kz3, .slice D4 z.f5.length kz4] 35 (0, 0))) ∧ Aside0 (w'.heap[gr]? = some (.cells #[.int .i64 0, .string ⟨#[]⟩, .int .i64 0, .int .i64 0, .slice none 0 0, .slice none 0 0, .slice none 0 0, .slice none 0 0] 35 (0, 0))) ∧ Aside0 (Below w.heap.size w w'))
  case first =>
   have r1 := blk8 HX.out
   by_cases k1 : x.f0 = 1
   ·have k1' := k_ k1
    have k1a : (x.f0 == 1) = true := beq_iff_eq.mpr k1
    have k1b : (x.f0 != 1) = false := bne_eq_false_iff_eq.mpr k1
    clear k1
    by_cases k2 : x.f1 = nm
    ·have k2' := k_ k2
     have k2a : (x.f1.toList == nm.toList) = true := beq_iff_eq.mpr (congrArg ByteArray.toList k2)
     have k2b : (x.f1.toList != nm.toList) = false := bne_eq_false_iff_eq.mpr (congrArg ByteArray.toList k2)
     clear k2
     go_wp2
     go_meet
     case rel => exact ⟨true, (by first | rfl | simp [i64_w, i32_w, *]), ⟨fun _ => ⟨k1'.out, k2'.out⟩, fun _ => rfl⟩, HX, HZ, HR, HB⟩
    ·have k2' := k_ k2
     have k2a : (x.f1.toList == nm.toList) = false := beq_eq_false_iff_ne.mpr (fun e => k2 (str_ext e))
     have k2b : (x.f1.toList != nm.toList) = true := bne_iff_ne.mpr (fun e => k2 (str_ext e))
     clear k2
     go_wp2
     go_meet
     case rel => exact ⟨false, (by first | rfl | simp [i64_w, i32_w, *]), ⟨(fun h => by cases h), fun h => absurd h.2 k2'.out⟩, HX, HZ, HR, HB⟩
   ·have k1' := k_ k1
    have k1a : (x.f0 == 1) = false := beq_eq_false_iff_ne.mpr k1
    have k1b : (x.f0 != 1) = true := bne_iff_ne.mpr k1
    clear k1
    go_wp2
    go_meet
    case rel => exact ⟨false, (by first | rfl | simp [i64_w, i32_w, *]), ⟨(fun h => by cases h), fun h => absurd h.1 k1'.out⟩, HX, HZ, HR, HB⟩
  case rest =>
   clear HX HZ HR HB
   obtain ⟨b, rfl, HC, HX, HZ, HR, HB⟩ := hcut
   cases b
   rotate_left
   ·have HK := k_ (HC.out.1 rfl)
    clear HC
    have r2 := blk8 HZ.out
    go_wp2_with (first | (go_at_call 24; refine (cloneTerm_st z SZ.out _ _ _ _ _ _ _ _ _ ⟨Kd.C_below Z1.out.1 HB.out, Z1.out.2⟩ ⟨Kd.C_below Z2.out.1 HB.out, Z2.out.2⟩ ⟨Kd.C_below Z3.out.1 HB.out, Z3.out.2⟩ ⟨Kd.C_below Z4.out.1 HB.out, Z4.out.2⟩).mono ?_; rintro e w4 ⟨hs, he, hE, hA, hb⟩; obtain ⟨Q1, cq1, Q2, cq2, Q3, cq3, Q4, cq4, us', ds, rfl, hus', hds⟩ := TeE_open hE hA; obtain rfl : e = .returned (.agg #[.int .i64 z.f0, .string z.f1, .int .i64 z.f2, .int .i64 z.f3.f0, .slice Q1 z.f3.f1.length cq1, .slice Q2 z.f3.f2.length cq2, .slice Q3 z.f4.length cq3, .slice Q4 z.f5.length cq4]) := he; have D_HC1_gx := k_ (Apt_ge hA (blk_lt HX.out)); have D_HC1_gy := k_ (Apt_ge hA (blk_lt HZ.out)); have D_HC1_gr := k_ (Apt_ge hA (blk_lt HR.out)); have HC11 := k_ (Apt_lower hA (below_size HB.out)); replace HB := k_ (below_step HB.out hb); replace HX := k_ (blk_below HX.out hb); replace HZ := k_ (blk_below HZ.out hb); replace HR := k_ (blk_below HR.out hb); have HC1 := HC11; have HC1E := k_ hE; clear HC11 hA hE hus' hds hb) | ((with_reducible refine gate_store (t := 35) (p := 6) rfl ?_); have r1 := blk8 HR.out; have z2 := blf8 HR.out; refine store_event (t := 35) (p := 6) (v := ?vo_3) (w1 := w4.setCells gr 0 [.int .i64 z.f0, .string z.f1, .int .i64 z.f2, .int .i64 z.f3.f0, .slice Q1 z.f3.f1.length cq1, .slice Q2 z.f3.f2.length cq2, .slice Q3 z.f4.length cq3, .slice Q4 z.f5.length cq4]) ?hg ?ho ?hn ?hr ?_; (case ho => rfl); (case hg => rfl); (case hn => rfl); (case hr => first | (go_simp; done) | (go_simp; rfl)); intro w5 hw; replace HB := k_ (bew hw HB.out G_gr.out); replace HX := k_ (bfw hw HX.out N_gx_gr.out); replace HZ := k_ (bfw hw HZ.out N_gy_gr.out); replace HR := k_ (show w5.heap[gr]? = some (.cells #[.int .i64 z.f0, .string z.f1, .int .i64 z.f2, .int .i64 z.f3.f0, .slice Q1 z.f3.f1.length cq1, .slice Q2 z.f3.f2.length cq2, .slice Q3 z.f4.length cq3, .slice Q4 z.f5.length cq4] 35 (0, 0)) from bsw hw HR.out (by simp only [putA, sP, Nat.zero_add, Nat.reduceAdd])); replace HC1 := k_ (apw hw HC1.out D_HC1_gr.out); clear hw; have r4 := blk8 HR.out))
    refine bodyPost_ret (results_cell_row rfl _ _ gr 35 #[.int .i64 z.f0, .string z.f1, .int .i64 z.f2, .int .i64 z.f3.f0, .slice Q1 z.f3.f1.length cq1, .slice Q2 z.f3.f2.length cq2, .slice Q3 z.f4.length cq3, .slice Q4 z.f5.length cq4] (0, 0) _ rfl HR.out Tryd.underlying35 rfl (by kernel_rfl)) rfl ?_
    exact ⟨_, rfl, (by rw [subF, if_pos HK.out]; exact HC1E.out), HC1.out, HB.out⟩
   have HK := k_ (show ¬ (x.f0 = 1 ∧ x.f1 = nm) from fun h => Bool.false_ne_true (HC.out.2 h))
   clear HC
   have r46 := blk8 HX.out
   go_wp2_with (first | ((with_reducible refine gate_dst (N := 7) rfl ?_); refine box_event ?hg (N := 7) ?hd (cs := #[.int .i64 0, .string ⟨#[]⟩, .int .i64 0, .int .i64 0, .slice none 0 0, .slice none 0 0, .slice none 0 0, .slice none 0 0]) (t := 35) ?hr ?_; (case hd => rfl); (case hg => rfl); (case hr => first | (go_simp; done) | (go_simp; rfl)); intro gg hg w4 hbox hb; have N_gx_gg := k_ (nwN hg HX.out); have N_gg_gx := k_ (Ne.symm N_gx_gg.out); have N_gy_gg := k_ (nwN hg HZ.out); have N_gg_gy := k_ (Ne.symm N_gy_gg.out); have N_gr_gg := k_ (nwN hg HR.out); have N_gg_gr := k_ (Ne.symm N_gr_gg.out); have G_gg := k_ (nwG hg HB.out); replace HX := k_ (blk_below HX.out hb); replace HZ := k_ (blk_below HZ.out hb); replace HR := k_ (blk_below HR.out hb); replace HB := k_ (below_step HB.out hb); have HG := k_ hbox; clear hg hbox hb) | ((with_reducible refine gate_store (t := 35) (p := 7) rfl ?_); have r43 := blk8 HG.out; have z44 := blf8 HG.out; refine store_event (t := 35) (p := 7) (v := ?vo_45) (w1 := w4.setCells gg 0 [.int .i64 x.f0, .string x.f1, .int .i64 x.f2, .int .i64 x.f3.f0, .slice A1 x.f3.f1.length c1, .slice A2 x.f3.f2.length c2, .slice A3 x.f4.length c3, .slice A4 x.f5.length c4]) ?hg ?ho ?hn ?hr ?_; (case ho => rfl); (case hg => rfl); (case hn => rfl); (case hr => first | (go_simp; done) | (go_simp; rfl)); intro w5 hw; replace HX := k_ (bfw hw HX.out N_gx_gg.out); replace HZ := k_ (bfw hw HZ.out N_gy_gg.out); replace HR := k_ (bfw hw HR.out N_gr_gg.out); replace HB := k_ (bew hw HB.out G_gg.out); replace HG := k_ (show w5.heap[gg]? = some (.cells #[.int .i64 x.f0, .string x.f1, .int .i64 x.f2, .int .i64 x.f3.f0, .slice A1 x.f3.f1.length c1, .slice A2 x.f3.f2.length c2, .slice A3 x.f4.length c3, .slice A4 x.f5.length c4] 35 (0, 0)) from bsw hw HG.out (by simp only [putA, sP, Nat.zero_add, Nat.reduceAdd])); clear hw))
   replace HX := k_ (blk_drew HX.out)
   replace HZ := k_ (blk_drew HZ.out)
   replace HR := k_ (blk_drew HR.out)
   replace HB := k_ (below_drew1 HB.out)
   replace HG := k_ (blk_drew HG.out)
   refine start_ (n := 12) (S := fun w' => (w'.heap[gx]? = some (.cells #[.int .i64 x.f0, .string x.f1, .int .i64 x.f2, .int .i64 x.f3.f0, .slice A1 x.f3.f1.length c1, .slice A2 x.f3.f2.length c2, .slice A3 x.f4.length c3, .slice A4 x.f5.length c4] 35 (0, 0)))) (ds := [7, 9, 11]) mSubI0 (by kernel_rfl) rfl rfl (HX.out) (fun hHeld => ?_); refine with_tabW tabS.tab4 tabS.bits4 (fun HT_ HW_ => ?_)
   generalize w5.drew = w6 at HX HZ HR HB HG hHeld ⊢
   refine pure_ (i := 0) (N := some 24) (v := ?_) (a' := ?_) mSubI1 rfl rfl (any_of HT_.out (by kernel_rfl)) (fun _ _ _ h => h) (Or.inl ⟨by rfl, ?_⟩) ?_ ?_
   rotate_left
   ·intro w'
    go_simp
    try with_reducible rfl
   rotate_left
   ·simp only [Act.put, sP]
    rfl
   refine pure_ (i := 3) (N := some 27) (v := ?_) (a' := ?_) mSubI2 rfl rfl (any_of HT_.out (by kernel_rfl)) (fun _ _ _ h => h) (Or.inl ⟨by rfl, ?_⟩) ?_ ?_
   rotate_left
   ·intro w'
    go_simp
    try with_reducible rfl
   rotate_left
   ·simp only [Act.put, sP]
    rfl
   refine take_ (i := 1) (N := some 25) (v := ?_) (a' := ?_) mSubI3 rfl rfl (take_ofW HT_.out HW_.out (by kernel_rfl)) (fun _ _ _ h => h) (Or.inl ⟨by rfl, ?_⟩) hHeld ?_ ?_
   rotate_left
   ·rintro w' s0
    have q0 := blk8 s0
    go_simp
    with_reducible rfl
   rotate_left
   ·simp only [Act.put, sP]
    rfl
   refine take_ (i := 4) (N := some 28) (v := ?_) (a' := ?_) mSubI4 rfl rfl (take_ofW HT_.out HW_.out (by kernel_rfl)) (fun _ _ _ h => h) (Or.inl ⟨by rfl, ?_⟩) hHeld ?_ ?_
   rotate_left
   ·rintro w' s0
    have q0 := blk8 s0
    go_simp
    with_reducible rfl
   rotate_left
   ·simp only [Act.put, sP]
    rfl
   refine one_ (i := 2) (N := some 26) mSubI5 rfl rfl (one_of HT_.out (by kernel_rfl)) (by decide) (fun K hK => ?_)
   refine goes_ Tryd.func25 (by kernel_rfl) rfl #[.agg #[.int .i64 x.f3.f0, .slice A1 x.f3.f1.length c1, .slice A2 x.f3.f2.length c2]] (by rfl) rfl rfl (by (try simp only [List.map_toArray, List.map_cons, List.map_nil]); first | done | rfl) ?_
   refine (cloneType_st x.f3 SM.out.p3 A1 c1 A2 c2 _ ⟨Kd.C_below R1.out.1 HB.out, R1.out.2⟩ ⟨Kd.C_below R2.out.1 HB.out, R2.out.2⟩).mono ?_
   rintro e w7 ⟨hs, rfl, hE, hA, hb⟩
   obtain ⟨P1, q1, P2, q2, us, rfl, hus⟩ := TyE_open hE hA
   refine ⟨.agg #[.int .i64 x.f3.f0, .slice P1 x.f3.f1.length q1, .slice P2 x.f3.f2.length q2], rfl, ?_⟩
   have HUS := k_ hus
   have D_HT_gx := k_ (Apt_ge hA (blk_lt HX.out))
   have D_HT_gy := k_ (Apt_ge hA (blk_lt HZ.out))
   have D_HT_gr := k_ (Apt_ge hA (blk_lt HR.out))
   have D_HT_gg := k_ (Apt_ge hA (blk_lt HG.out))
   have HT1 := k_ (Apt_lower hA (below_size HB.out))
   replace HX := k_ (blk_below HX.out hb)
   replace HZ := k_ (blk_below HZ.out hb)
   replace HR := k_ (blk_below HR.out hb)
   replace HB := k_ (below_step HB.out hb)
   replace HG := k_ (blk_below HG.out hb)
   have HT := HT1
   clear HT1 hA hE hus hb
   refine hK.out _ _ (HX.out) (fun hHeld => ?_)
   clear hK K
   refine norm_ (a' := ?_) ?_ ?_
   rotate_left
   ·show Act.put _ (some 26) _ = _
    simp only [Act.put, sP]
    rfl
   refine pure_ (i := 6) (N := some 30) (v := ?_) (a' := ?_) mSubI6 rfl rfl (any_of HT_.out (by kernel_rfl)) (fun _ _ _ h => h) (Or.inl ⟨by rfl, ?_⟩) ?_ ?_
   rotate_left
   ·intro w'
    go_simp
    try with_reducible rfl
   rotate_left
   ·simp only [Act.put, sP]
    rfl
   refine one_ (i := 5) (N := some 29) mSubI7 rfl rfl (one_of HT_.out (by kernel_rfl)) (by decide) (fun K hK => ?_)
   refine goes_ Tryd.func26 (by kernel_rfl) rfl #[.slice A3 x.f4.length c3] (by rfl) rfl rfl (by (try simp only [List.map_toArray, List.map_cons, List.map_nil]); first | done | rfl) ?_
   refine (slices_Clone_string_string.calls _ _ x.f4 x.f4 _ (Kd.C_below R3.out.1 HB.out) R3.out.2 (by unfold slices_Clone_string_string.f; rw [if_pos (by have := SM.out.p4.1; omega)])).mono ?_
   rintro e w8 ⟨v3, rfl, ho, hb⟩
   refine ⟨_, rfl, ?_⟩
   obtain ⟨Ao, co, rfl⟩ := Kd.R_slice ho
   have HL0 := Apt_str ho
   have D_HP_gx := k_ (show ∀ b ∈ blS [.lf (.int .i64 x.f3.f0), strR (.slice P1 x.f3.f1.length q1) x.f3.f1, .row 32 3 x.f3.f2.length (.slice P2 x.f3.f2.length q2) us, strR (.slice Ao x.f4.length co) x.f4], b ≠ gx from Dapp D_HT_gx.out (Apt_ge HL0 (blk_lt HX.out)))
   have D_HP_gy := k_ (show ∀ b ∈ blS [.lf (.int .i64 x.f3.f0), strR (.slice P1 x.f3.f1.length q1) x.f3.f1, .row 32 3 x.f3.f2.length (.slice P2 x.f3.f2.length q2) us, strR (.slice Ao x.f4.length co) x.f4], b ≠ gy from Dapp D_HT_gy.out (Apt_ge HL0 (blk_lt HZ.out)))
   have D_HP_gr := k_ (show ∀ b ∈ blS [.lf (.int .i64 x.f3.f0), strR (.slice P1 x.f3.f1.length q1) x.f3.f1, .row 32 3 x.f3.f2.length (.slice P2 x.f3.f2.length q2) us, strR (.slice Ao x.f4.length co) x.f4], b ≠ gr from Dapp D_HT_gr.out (Apt_ge HL0 (blk_lt HR.out)))
   have D_HP_gg := k_ (show ∀ b ∈ blS [.lf (.int .i64 x.f3.f0), strR (.slice P1 x.f3.f1.length q1) x.f3.f1, .row 32 3 x.f3.f2.length (.slice P2 x.f3.f2.length q2) us, strR (.slice Ao x.f4.length co) x.f4], b ≠ gg from Dapp D_HT_gg.out (Apt_ge HL0 (blk_lt HG.out)))
   have HP1 := k_ (show Apt w8 w.heap.size [.lf (.int .i64 x.f3.f0), strR (.slice P1 x.f3.f1.length q1) x.f3.f1, .row 32 3 x.f3.f2.length (.slice P2 x.f3.f2.length q2) us, strR (.slice Ao x.f4.length co) x.f4] from Apt_append HT.out (fun k hk => hb.block k (Apt_lt HT.out k hk)) (Nat.le_refl _) HL0 (below_size HB.out))
   clear HT
   replace HX := k_ (blk_below HX.out hb)
   replace HZ := k_ (blk_below HZ.out hb)
   replace HR := k_ (blk_below HR.out hb)
   replace HB := k_ (below_step HB.out hb)
   replace HG := k_ (blk_below HG.out hb)
   have HP := HP1
   clear HP1 HL0 ho hb
   refine hK.out _ _ (HX.out) (fun hHeld => ?_)
   clear hK K
   refine norm_ (a' := ?_) ?_ ?_
   rotate_left
   ·show Act.put _ (some 29) _ = _
    simp only [Act.put, sP]
    rfl
   refine last_ (i := 7) (N := none) mSubI8 rfl rfl (one_of HT_.out (by kernel_rfl)) (by decide) (fun K hK => ?_)
   have r47 := blk8 HG.out
   have z48 := blf8 HG.out
   refine skip_ (w1 := w8.setCells gg 3 [.int .i64 x.f3.f0, .slice P1 x.f3.f1.length q1, .slice P2 x.f3.f2.length q2]) (by rfl) rfl (by go_simp; rfl) ?_
   obtain ⟨w9, hw⟩ : ∃ w_, w_ = w8.setCells gg 3 [.int .i64 x.f3.f0, .slice P1 x.f3.f1.length q1, .slice P2 x.f3.f2.length q2] := ⟨_, rfl⟩
   rw [← hw]
   replace HX := k_ (bfw hw HX.out N_gx_gg.out)
   replace HZ := k_ (bfw hw HZ.out N_gy_gg.out)
   replace HR := k_ (bfw hw HR.out N_gr_gg.out)
   replace HB := k_ (bew hw HB.out G_gg.out)
   replace HG := k_ (show w9.heap[gg]? = some (.cells #[.int .i64 x.f0, .string x.f1, .int .i64 x.f2, .int .i64 x.f3.f0, .slice P1 x.f3.f1.length q1, .slice P2 x.f3.f2.length q2, .slice A3 x.f4.length c3, .slice A4 x.f5.length c4] 35 (0, 0)) from bsw hw HG.out (by simp only [putA, sP, Nat.zero_add, Nat.reduceAdd]))
   replace HP := k_ (apw hw HP.out D_HP_gg.out)
   clear hw
   refine hK.out _ _ ?_
   clear hK K
   refine pure_ (i := 8) (N := some 31) (v := ?_) (a' := ?_) mSubI9 rfl rfl (any_of HT_.out (by kernel_rfl)) (fun _ _ _ h => h) (Or.inl ⟨by rfl, ?_⟩) ?_ ?_
   rotate_left
   ·intro w'
    go_simp
    try with_reducible rfl
   rotate_left
   ·simp only [Act.put, sP]
    rfl
   refine last_ (i := 9) (N := none) mSubI10 rfl rfl (one_of HT_.out (by kernel_rfl)) (by decide) (fun K hK => ?_)
   have r49 := blk8 HG.out
   have z50 := blf8 HG.out
   refine skip_ (w1 := w9.setCells gg 6 [.slice Ao x.f4.length co]) (by rfl) rfl (by go_simp; rfl) ?_
   obtain ⟨w10, hw⟩ : ∃ w_, w_ = w9.setCells gg 6 [.slice Ao x.f4.length co] := ⟨_, rfl⟩
   rw [← hw]
   replace HX := k_ (bfw hw HX.out N_gx_gg.out)
   replace HZ := k_ (bfw hw HZ.out N_gy_gg.out)
   replace HR := k_ (bfw hw HR.out N_gr_gg.out)
   replace HB := k_ (bew hw HB.out G_gg.out)
   replace HG := k_ (show w10.heap[gg]? = some (.cells #[.int .i64 x.f0, .string x.f1, .int .i64 x.f2, .int .i64 x.f3.f0, .slice P1 x.f3.f1.length q1, .slice P2 x.f3.f2.length q2, .slice Ao x.f4.length co, .slice A4 x.f5.length c4] 35 (0, 0)) from bsw hw HG.out (by simp only [putA, sP, Nat.zero_add, Nat.reduceAdd]))
   replace HP := k_ (apw hw HP.out D_HP_gg.out)
   clear hw
   refine hK.out _ _ ?_
   clear hK K
   refine pure_ (i := 10) (N := some 32) (v := ?_) (a' := ?_) mSubI11 rfl rfl (any_of HT_.out (by kernel_rfl)) (fun _ _ _ h => h) (Or.inl ⟨by rfl, ?_⟩) ?_ ?_
   rotate_left
   ·intro w'
    go_simp
    try with_reducible rfl
   rotate_left
   ·simp only [Act.put, sP]
    rfl
   refine last_ (i := 11) (N := none) mSubI12 rfl rfl (one_of HT_.out (by kernel_rfl)) (by decide) (fun K hK => ?_)
   have r51 := blk8 HG.out
   have z52 := blf8 HG.out
   refine skip_ (w1 := w10.setCells gg 7 [.slice none 0 0]) (by rfl) rfl (by go_simp; rfl) ?_
   obtain ⟨w11, hw⟩ : ∃ w_, w_ = w10.setCells gg 7 [.slice none 0 0] := ⟨_, rfl⟩
   rw [← hw]
   replace HX := k_ (bfw hw HX.out N_gx_gg.out)
   replace HZ := k_ (bfw hw HZ.out N_gy_gg.out)
   replace HR := k_ (bfw hw HR.out N_gr_gg.out)
   replace HB := k_ (bew hw HB.out G_gg.out)
   replace HG := k_ (show w11.heap[gg]? = some (.cells #[.int .i64 x.f0, .string x.f1, .int .i64 x.f2, .int .i64 x.f3.f0, .slice P1 x.f3.f1.length q1, .slice P2 x.f3.f2.length q2, .slice Ao x.f4.length co, .slice none 0 0] 35 (0, 0)) from bsw hw HG.out (by simp only [putA, sP, Nat.zero_add, Nat.reduceAdd]))
   replace HP := k_ (apw hw HP.out D_HP_gg.out)
   clear hw
   refine hK.out _ _ ?_
   clear hK K
   refine done_ (done_of HT_.out (by kernel_rfl)) ?_
   clear HT_ HW_
   clear hHeld
   obtain ⟨n1, hn1⟩ : ∃ n, n = w11.heap.size := ⟨_, rfl⟩
   have L_gx := k_ (limB hn1 HX.out)
   have L_gy := k_ (limB hn1 HZ.out)
   have L_gr := k_ (limB hn1 HR.out)
   have L_gg := k_ (limB hn1 HG.out)
   have L_HP := k_ (limA hn1 HP.out)
   have L_w := k_ (limW hn1 HB.out)
   have LN := k_ (show n1 ≤ w11.heap.size by rw [hn1]; exact Nat.le_refl _)
   have r53 := blk8 HX.out
   try go_wp2
   go_loopg [8, 10, 11, 36, 78, 91] x.f5.length (fun gq v8 v10 v11 v36 v78 v91 w' => ∃ (i : Nat) (cs : List HT) (u : Value) (gn : ByteArray), v36 = .int .i64 (i : Int) ∧ Aside0 (i + gq = x.f5.length) ∧ Aside0 (gn = if bdAt x < (i : Int) then newN x nm z else x.f1) ∧ Aside0 (TeES ((argsF (subF k) x nm z).take i) cs) ∧ Aside0 (Apt w' n1 [HT.row 35 8 i u cs]) ∧ Aside0 (w'.heap[gx]? = some (.cells #[.int .i64 x.f0, .string x.f1, .int .i64 x.f2, .int .i64 x.f3.f0, .slice A1 x.f3.f1.length c1, .slice A2 x.f3.f2.length c2, .slice A3 x.f4.length c3, .slice A4 x.f5.length c4] 35 (0, 0))) ∧ Aside0 (w'.heap[gy]? = some (.cells #[.int .i64 z.f0, .string z.f1, .int .i64 z.f2, .int .i64 z.f3.f0, .slice D1 z.f3.f1.length kz1, .slice D2 z.f3.f2.length kz2, .slice D3 z.f4.length kz3, .slice D4 z.f5.length kz4] 35 (0, 0))) ∧ Aside0 (w'.heap[gr]? = some (.cells #[.int .i64 0, .string ⟨#[]⟩, .int .i64 0, .int .i64 0, .slice none 0 0, .slice none 0 0, .slice none 0 0, .slice none 0 0] 35 (0, 0))) ∧ Aside0 (w'.heap[gg]? = some (.cells #[.int .i64 x.f0, .string gn, .int .i64 x.f2, .int .i64 x.f3.f0, .slice P1 x.f3.f1.length q1, .slice P2 x.f3.f2.length q2, .slice Ao x.f4.length co, u] 35 (0, 0))) ∧ Aside0 (Apt w' w.heap.size [.lf (.int .i64 x.f3.f0), strR (.slice P1 x.f3.f1.length q1) x.f3.f1, .row 32 3 x.f3.f2.length (.slice P2 x.f3.f2.length q2) us, strR (.slice Ao x.f4.length co) x.f4]) ∧ Aside0 (Below w.heap.size w w') ∧ Aside0 (n1 ≤ w'.heap.size))
   case atStart => exact ⟨0, [], .slice none 0 0, x.f1, rfl, ⟨by omega⟩, ⟨gn_start x nm z⟩, ⟨by simp [TeES]⟩, ⟨row_nil _ _ _ _⟩, HX, HZ, HR, HG, HP, HB, LN⟩
   case round =>
    clear HX HZ HR HG HP HB LN
    obtain ⟨i, cs, u, gn, rfl, HI, HN, HE, HQ, HX, HZ, HR, HG, HP, HB, LN⟩ := hrel
    obtain ⟨Au, cu, rfl⟩ := row_slice HQ.out
    have D_HQ_gx := k_ (Apt_ge HQ.out L_gx.out)
    have D_HQ_gy := k_ (Apt_ge HQ.out L_gy.out)
    have D_HQ_gr := k_ (Apt_ge HQ.out L_gr.out)
    have D_HQ_gg := k_ (Apt_ge HQ.out L_gg.out)
    by_cases d1 : i < x.f5.length
    ·have HD := k_ d1
     have d2 : (i : Int) < (x.f5.length : Int) := by omega
     have d3 : decide ((i : Int) < (x.f5.length : Int)) = true := decide_eq_true d2
     have d4 := eq_true d2
     have d5 : (0 ≤ (i : Int)) = True := eq_true (by omega)
     obtain ⟨ad, B1, e1, B2, e2, B3, e3, B4, e4, eA, y0, y1, y2, y3, y4, y5, y6, y7, m1, o1, m2, o2, m3, o3, m4, o4⟩ := at_T35 R4.out.1 (i : Int) (by omega) d2
     cases eA
     obtain ⟨y, hy⟩ : ∃ y, y = rd_T35 x.f5 (i : Int) := ⟨_, rfl⟩
     rw [← hy] at y0 y1 y2 y3 y4 y5 y6 y7 m1 o1 m2 o2 m3 o3 m4 o4
     have HY := k_ (show y = x.f5.getD i z35 by rw [hy]; rfl)
     simp only [Int.toNat_natCast] at y0 y1 y2 y3 y4 y5 y6 y7
     have M1 := k_ (And.intro o1 m1); have M2 := k_ (And.intro o2 m2); have M3 := k_ (And.intro o3 m3); have M4 := k_ (And.intro o4 m4)
     clear m1 o1 m2 o2 m3 o3 m4 o4 hy d1
     have hwi : wrap64 ((i : Int) + 1) = ((i + 1 : Nat) : Int) := by have h1 := SM.out.p5.1; have h2 := HD.out; unfold wrap64; omega
     replace y0 := (HB.out.cell (World.block_lt_of_cell? w _ y0)).trans y0
     replace y1 := (HB.out.cell (World.block_lt_of_cell? w _ y1)).trans y1
     replace y2 := (HB.out.cell (World.block_lt_of_cell? w _ y2)).trans y2
     replace y3 := (HB.out.cell (World.block_lt_of_cell? w _ y3)).trans y3
     replace y4 := (HB.out.cell (World.block_lt_of_cell? w _ y4)).trans y4
     replace y5 := (HB.out.cell (World.block_lt_of_cell? w _ y5)).trans y5
     replace y6 := (HB.out.cell (World.block_lt_of_cell? w _ y6)).trans y6
     replace y7 := (HB.out.cell (World.block_lt_of_cell? w _ y7)).trans y7
     have SMY := k_ (show SmTerm y by rw [HY.out]; exact SM.out.p5.2 _ (mem_getD x.f5 z35 i HD.out))
     have NY := k_ (show ndTerm y + 1 ≤ ndTerm x by rw [HY.out]; exact nd_arg x i HD.out)
     have NYk := k_ (show ndTerm y ≤ k by have := NK.out; have := NY.out; omega)
     have NYz := k_ (show ndTerm y + ndTerm z ≤ 1048578 by have := NN.out; have := NY.out; omega)
     obtain ⟨KB, hKB⟩ := binds_ev x
     have HKB := k_ (show impl_binds.f KB x.f0 x.f1 x.f2 x.f3.f0 x.f3.f1 x.f3.f2 x.f4 x.f5 = some (bdAt x) from hKB KB (Nat.le_refl _))
     clear hKB
     by_cases k3 : (i : Int) = bdAt x
     ·have K3 := k_ k3
      have k3a : ((i : Int) == bdAt x) = true := beq_iff_eq.mpr k3
      have k3b : ((i : Int) != bdAt x) = false := bne_eq_false_iff_eq.mpr k3
      clear k3
      by_cases k4 : x.f1 = nm
      ·have K4 := k_ k4
       have k4a : (x.f1.toList == nm.toList) = true := beq_iff_eq.mpr (congrArg ByteArray.toList k4)
       have k4b : (x.f1.toList != nm.toList) = false := bne_eq_false_iff_eq.mpr (congrArg ByteArray.toList k4)
       clear k4
       go_wp2_with (first | ((with_reducible refine gate_dst (N := 9) rfl ?_); refine box_event ?hg (N := 9) ?hd (cs := #[.int .i64 0, .string ⟨#[]⟩, .int .i64 0, .int .i64 0, .slice none 0 0, .slice none 0 0, .slice none 0 0, .slice none 0 0]) (t := 35) ?hr ?_; (case hd => rfl); (case hg => rfl); (case hr => first | (go_simp; done) | (go_simp; rfl)); intro ga hg w12 hbox hb; have N_gx_ga := k_ (nwN hg HX.out); have N_ga_gx := k_ (Ne.symm N_gx_ga.out); have N_gy_ga := k_ (nwN hg HZ.out); have N_ga_gy := k_ (Ne.symm N_gy_ga.out); have N_gr_ga := k_ (nwN hg HR.out); have N_ga_gr := k_ (Ne.symm N_gr_ga.out); have N_gg_ga := k_ (nwN hg HG.out); have N_ga_gg := k_ (Ne.symm N_gg_ga.out); have D_HP_ga := k_ (nwD hg HP.out); have D_HQ_ga := k_ (nwD hg HQ.out); have G_ga := k_ (nwG hg HB.out); replace HX := k_ (blk_below HX.out hb); replace HZ := k_ (blk_below HZ.out hb); replace HR := k_ (blk_below HR.out hb); replace HG := k_ (blk_below HG.out hb); replace HP := k_ (Apt_below HP.out hb); replace HB := k_ (below_step HB.out hb); replace LN := k_ (Nat.le_trans LN.out (below_size hb)); replace HQ := k_ (Apt_below HQ.out hb); have HA := k_ hbox; clear hg hbox hb) | ((with_reducible refine gate_store (t := 35) (p := 9) rfl ?_); have r154 := blk8 HA.out; have z155 := blf8 HA.out; refine store_event (t := 35) (p := 9) (v := ?vo_156) (w1 := w12.setCells ga 0 [.int .i64 y.f0, .string y.f1, .int .i64 y.f2, .int .i64 y.f3.f0, .slice B1 y.f3.f1.length e1, .slice B2 y.f3.f2.length e2, .slice B3 y.f4.length e3, .slice B4 y.f5.length e4]) ?hg ?ho ?hn ?hr ?_; (case ho => rfl); (case hg => rfl); (case hn => rfl); (case hr => first | (go_simp; done) | (go_simp; rfl)); intro w13 hw; replace HX := k_ (bfw hw HX.out N_gx_ga.out); replace HZ := k_ (bfw hw HZ.out N_gy_ga.out); replace HR := k_ (bfw hw HR.out N_gr_ga.out); replace HG := k_ (bfw hw HG.out N_gg_ga.out); replace HP := k_ (apw hw HP.out D_HP_ga.out); replace HB := k_ (bew hw HB.out G_ga.out); replace LN := k_ (siw hw LN.out); replace HQ := k_ (apw hw HQ.out D_HQ_ga.out); replace HA := k_ (show w13.heap[ga]? = some (.cells #[.int .i64 y.f0, .string y.f1, .int .i64 y.f2, .int .i64 y.f3.f0, .slice B1 y.f3.f1.length e1, .slice B2 y.f3.f2.length e2, .slice B3 y.f4.length e3, .slice B4 y.f5.length e4] 35 (0, 0)) from bsw hw HA.out (by simp only [putA, sP, Nat.zero_add, Nat.reduceAdd])); clear hw; clear y0 y1 y2 y3 y4 y5 y6 y7) | (go_at_call 27; refine (impl_binds.calls KB ⟨gx, 0, none⟩ x.f0 x.f1 x.f2 x.f3.f0 _ _ x.f3.f1 _ _ x.f3.f2 _ _ x.f4 _ _ x.f5 (bdAt x) _ (Cells_blk HX.out) (Kd.C_below R1.out.1 HB.out) R1.out.2 (Kd.C_below R2.out.1 HB.out) R2.out.2 (Kd.C_below R3.out.1 HB.out) R3.out.2 (Kd.C_below R4.out.1 HB.out) R4.out.2 HKB.out).mono ?_; rintro e w14 ⟨rfl, hd⟩; have hb := Drawn0.below hd; replace HX := k_ (blk_below HX.out hb); replace HZ := k_ (blk_below HZ.out hb); replace HR := k_ (blk_below HR.out hb); replace HG := k_ (blk_below HG.out hb); replace HP := k_ (Apt_below HP.out hb); replace HB := k_ (below_step HB.out hb); replace LN := k_ (Nat.le_trans LN.out (below_size hb)); replace HQ := k_ (Apt_below HQ.out hb); replace HA := k_ (blk_below HA.out hb); clear hb hd; have r157 := blk8 HX.out))
       clear k3a k3b k4a k4b
       replace HX := k_ (blk_drew HX.out)
       replace HZ := k_ (blk_drew HZ.out)
       replace HR := k_ (blk_drew HR.out)
       replace HG := k_ (blk_drew HG.out)
       replace HP := k_ (Apt_below HP.out (below_drew1 (Below.refl _ _)))
       replace HB := k_ (below_drew1 HB.out)
       replace LN := k_ (show n1 ≤ w14.drew.heap.size from LN.out)
       replace HQ := k_ (Apt_below HQ.out (below_drew1 (Below.refl _ _)))
       replace HA := k_ (blk_drew HA.out)
       refine start_ (n := 8) (S := fun w' => (w'.heap[gg]? = some (.cells #[.int .i64 x.f0, .string gn, .int .i64 x.f2, .int .i64 x.f3.f0, .slice P1 x.f3.f1.length q1, .slice P2 x.f3.f2.length q2, .slice Ao x.f4.length co, .slice Au i cu] 35 (0, 0))) ∧ (w'.heap[ga]? = some (.cells #[.int .i64 y.f0, .string y.f1, .int .i64 y.f2, .int .i64 y.f3.f0, .slice B1 y.f3.f1.length e1, .slice B2 y.f3.f2.length e2, .slice B3 y.f4.length e3, .slice B4 y.f5.length e4] 35 (0, 0)))) (ds := [7]) mSubI26 (by kernel_rfl) rfl rfl ⟨HG.out, HA.out⟩ (fun hHeld => ?_); refine with_tabW tabS.tab17 tabS.bits17 (fun HT_ HW_ => ?_)
       generalize w14.drew = w15 at HX HZ HR HG HP HB LN HQ HA hHeld ⊢
       refine pure_ (i := 0) (N := some 96) (v := ?_) (a' := ?_) mSubI27 rfl rfl (any_of HT_.out (by kernel_rfl)) (fun _ _ _ h => h) (Or.inl ⟨by rfl, ?_⟩) ?_ ?_
       rotate_left
       ·intro w'
        go_simp
        try with_reducible rfl
       rotate_left
       ·simp only [Act.put, sP]
        rfl
       refine take_ (i := 1) (N := some 97) (v := ?_) (a' := ?_) mSubI28 rfl rfl (take_ofW HT_.out HW_.out (by kernel_rfl)) (fun _ _ _ h => h) (Or.inl ⟨by rfl, ?_⟩) hHeld ?_ ?_
       rotate_left
       ·rintro w' ⟨s0, s1⟩
        have q0 := blk8 s0
        have q1 := blk8 s1
        go_simp
        with_reducible rfl
       rotate_left
       ·simp only [Act.put, sP]
        rfl
       refine take_ (i := 2) (N := some 98) (v := ?_) (a' := ?_) mSubI29 rfl rfl (take_ofW HT_.out HW_.out (by kernel_rfl)) (fun _ _ _ h => h) (Or.inl ⟨by rfl, ?_⟩) hHeld ?_ ?_
       rotate_left
       ·rintro w' ⟨s0, s1⟩
        have q0 := blk8 s0
        have q1 := blk8 s1
        go_simp
        with_reducible rfl
       rotate_left
       ·simp only [Act.put, sP]
        rfl
       refine one_ (i := 3) (N := some 99) mSubI30 rfl rfl (one_of HT_.out (by kernel_rfl)) (by decide) (fun K hK => ?_)
       have HM := k_ (Apt_lt HQ.out)
       have HW0 := k_ (show n1 ≤ w15.heap.size from LN.out)
       refine goes_ Tryd.func24 (by kernel_rfl) rfl #[.agg #[.int .i64 y.f0, .string y.f1, .int .i64 y.f2, .int .i64 y.f3.f0, .slice B1 y.f3.f1.length e1, .slice B2 y.f3.f2.length e2, .slice B3 y.f4.length e3, .slice B4 y.f5.length e4]] (by rfl) rfl rfl (by (try simp only [List.map_toArray, List.map_cons, List.map_nil]); first | done | rfl) ?_
       refine (cloneTerm_st y SMY.out B1 e1 B2 e2 B3 e3 B4 e4 _ ⟨Kd.C_below M1.out.1 HB.out, M1.out.2⟩ ⟨Kd.C_below M2.out.1 HB.out, M2.out.2⟩ ⟨Kd.C_below M3.out.1 HB.out, M3.out.2⟩ ⟨Kd.C_below M4.out.1 HB.out, M4.out.2⟩).mono ?_
       rintro e w16 ⟨hs, rfl, hE, hA, hb⟩
       obtain ⟨t, ht_⟩ : ∃ t_, t_ = y := ⟨_, rfl⟩
       rw [← ht_] at hE
       have HT_E := k_ ht_
       clear ht_
       obtain ⟨Q1, cq1, Q2, cq2, Q3, cq3, Q4, cq4, us', ds, rfl, hus', hds⟩ := TeE_open hE hA
       refine ⟨.agg #[.int .i64 t.f0, .string t.f1, .int .i64 t.f2, .int .i64 t.f3.f0, .slice Q1 t.f3.f1.length cq1, .slice Q2 t.f3.f2.length cq2, .slice Q3 t.f4.length cq3, .slice Q4 t.f5.length cq4], rfl, ?_⟩
       replace HX := k_ (blk_below HX.out hb)
       replace HZ := k_ (blk_below HZ.out hb)
       replace HR := k_ (blk_below HR.out hb)
       replace HG := k_ (blk_below HG.out hb)
       replace HP := k_ (Apt_below HP.out hb)
       replace HB := k_ (below_step HB.out hb)
       replace LN := k_ (Nat.le_trans LN.out (below_size hb))
       replace HQ := k_ (Apt_below HQ.out hb)
       replace HA := k_ (blk_below HA.out hb)
       have HW1 := k_ (show n1 ≤ w16.heap.size from LN.out)
       have HH := k_ hA; have HEy := k_ hE
       clear hA hE hds hus' hb
       refine hK.out _ _ ⟨HG.out, HA.out⟩ (fun hHeld => ?_)
       clear hK K
       refine norm_ (a' := ?_) ?_ ?_
       rotate_left
       ·show Act.put _ (some 99) _ = _
        simp only [Act.put, sP]
        rfl
       refine one_ (i := 4) (N := some 100) mSubI31 rfl rfl (one_of HT_.out (by kernel_rfl)) (by decide) (fun K hK => ?_)
       refine value_ (w1 := ?_) (v := ?_) (by rfl) rfl ?_ ?_
       rotate_left 2
       ·go_simp
        constructor
        ·rfl
        ·rfl
       refine hK.out _ _ ⟨blk_alloc HG.out _, blk_alloc HA.out _⟩ (fun hHeld => ?_)
       clear hK K
       refine norm_ (a' := ?_) ?_ ?_
       rotate_left
       ·show Act.put _ (some 100) _ = _
        simp only [Act.put, sP]
        rfl
       refine one_ (i := 5) (N := some 101) mSubI32 rfl rfl (one_of HT_.out (by kernel_rfl)) (by decide) (fun K hK => ?_)
       refine step_append_cells (w0 := w) w.heap.size (by rfl) (.tmp 97) (.tmp 100) 33 35 (.agg #[.int .i64 0, .string ⟨#[]⟩, .int .i64 0, .int .i64 0, .slice none 0 0, .slice none 0 0, .slice none 0 0, .slice none 0 0]) 8 136 rfl Tryd.underlying33 info35 rfl (by decide) (by decide) (.slice Au i cu) i (cs.map HT.val) (List.map HT.val [.lf (.int .i64 t.f0), .lf (.string t.f1), .lf (.int .i64 t.f2), .lf (.int .i64 t.f3.f0), strR (.slice Q1 t.f3.f1.length cq1) t.f3.f1, .row 32 3 t.f3.f2.length (.slice Q2 t.f3.f2.length cq2) us', strR (.slice Q3 t.f4.length cq3) t.f4, .row 35 8 t.f5.length (.slice Q4 t.f5.length cq4) ds]) rfl rfl rfl (OkS_one HH.out.1) (own_weaken (row_cells HQ.out) L_w.out) HB.out (below_size HB.out) (by have := SM.out.p5.1; have := HD.out; omega) ?_
       intro u1 w17 ho1 hb1 hg1 hat1
       obtain ⟨Av, cv, rfl⟩ := own_slice ho1
       have HQ1 := k_ (row_append HQ.out HH.out HM.out HW0.out HW1.out ho1 hg1 hat1)
       replace HX := k_ (blk_grown HX.out hg1 (fun he => D_HQ_gx.out gx (row_own he.symm) rfl))
       replace HZ := k_ (blk_grown HZ.out hg1 (fun he => D_HQ_gy.out gy (row_own he.symm) rfl))
       replace HR := k_ (blk_grown HR.out hg1 (fun he => D_HQ_gr.out gr (row_own he.symm) rfl))
       replace HG := k_ (blk_grown HG.out hg1 (fun he => D_HQ_gg.out gg (row_own he.symm) rfl))
       replace HP := k_ (Apt_grown HP.out hg1 (fun b hb he => by have h1 := L_HP.out b hb; have h2 := (OkS_in _ HQ.out.1 b (row_own he.symm)).1; omega))
       replace HB := k_ (hb1)
       replace LN := k_ (Nat.le_trans LN.out hg1.size)
       replace HA := k_ (blk_grown HA.out hg1 (fun he => D_HQ_ga.out ga (row_own he.symm) rfl))
       clear HQ HH HM HW0 HW1 D_HQ_gx D_HQ_gy D_HQ_gr D_HQ_gg
       have HQ := HQ1
       clear HQ1 ho1 hb1 hg1 hat1
       have D_HQ_gx := k_ (Apt_ge HQ.out L_gx.out)
       have D_HQ_gy := k_ (Apt_ge HQ.out L_gy.out)
       have D_HQ_gr := k_ (Apt_ge HQ.out L_gr.out)
       have D_HQ_gg := k_ (Apt_ge HQ.out L_gg.out)
       refine hK.out _ _ ⟨HG.out, HA.out⟩ (fun hHeld => ?_)
       clear hK K
       refine norm_ (a' := ?_) ?_ ?_
       rotate_left
       ·show Act.put _ (some 101) _ = _
        simp only [Act.put, sP]
        rfl
       refine pure_ (i := 6) (N := some 102) (v := ?_) (a' := ?_) mSubI34 rfl rfl (any_of HT_.out (by kernel_rfl)) (fun _ _ _ h => h) (Or.inl ⟨by rfl, ?_⟩) ?_ ?_
       rotate_left
       ·intro w'
        go_simp
        try with_reducible rfl
       rotate_left
       ·simp only [Act.put, sP]
        rfl
       refine last_ (i := 7) (N := none) mSubI35 rfl rfl (one_of HT_.out (by kernel_rfl)) (by decide) (fun K hK => ?_)
       have r158 := blk8 HG.out
       have z159 := blf8 HG.out
       refine skip_ (w1 := w17.setCells gg 7 [.slice Av (i + 1) cv]) (by rfl) rfl (by go_simp; rfl) ?_
       obtain ⟨w18, hw⟩ : ∃ w_, w_ = w17.setCells gg 7 [.slice Av (i + 1) cv] := ⟨_, rfl⟩
       rw [← hw]
       replace HX := k_ (bfw hw HX.out N_gx_gg.out)
       replace HZ := k_ (bfw hw HZ.out N_gy_gg.out)
       replace HR := k_ (bfw hw HR.out N_gr_gg.out)
       replace HG := k_ (show w18.heap[gg]? = some (.cells #[.int .i64 x.f0, .string gn, .int .i64 x.f2, .int .i64 x.f3.f0, .slice P1 x.f3.f1.length q1, .slice P2 x.f3.f2.length q2, .slice Ao x.f4.length co, .slice Av (i + 1) cv] 35 (0, 0)) from bsw hw HG.out (by simp only [putA, sP, Nat.zero_add, Nat.reduceAdd]))
       replace HP := k_ (apw hw HP.out D_HP_gg.out)
       replace HB := k_ (bew hw HB.out G_gg.out)
       replace LN := k_ (siw hw LN.out)
       replace HQ := k_ (apw hw HQ.out D_HQ_gg.out)
       replace HA := k_ (bfw hw HA.out N_ga_gg.out)
       clear hw
       refine hK.out _ _ ?_
       clear hK K
       refine done_ (done_of HT_.out (by kernel_rfl)) ?_
       clear HT_ HW_
       try go_wp2
       go_roundg (gk - 1)
       case measure => have := HI.out; have := HD.out; omega
       case rel => exact ⟨i + 1, _, _, gn, (by first | rfl | rw [hwi] | simp [hwi]), ⟨by have := HI.out; have := HD.out; omega⟩, ⟨by rw [HN.out, (gn_at x _ _ i K3.out).1, (gn_at x _ _ i K3.out).2, newN_no (renB_same z K4.out)]⟩, ⟨by rw [take_one (argsF (subF k) x nm z) z35 i (by rw [argsF_len]; exact HD.out), argsF_get _ _ _ _ _ HD.out, ← HY.out, argF_same _ z _ K3.out K4.out, ← HT_E.out]; exact TeES_snoc _ _ _ _ HE.out HEy.out⟩, HQ, HX, HZ, HR, HG, HP, HB, LN⟩
      ·by_cases kF : hasB (sfv z) x.f1 = true
       ·by_cases kY : hasB (sfv y) nm = true
        ·have K4 := k_ k4
         have k4a : (x.f1.toList == nm.toList) = false := beq_eq_false_iff_ne.mpr (fun e => k4 (str_ext e))
         have k4b : (x.f1.toList != nm.toList) = true := bne_iff_ne.mpr (fun e => k4 (str_ext e))
         clear k4
         have HCF := k_ kF; have HCY := k_ kY
         clear kF kY
         obtain ⟨KY, hKY⟩ := (FreeVars_same y SMY.out (by have := NYz.out; have := nd_pos z; omega)).1
         have HFY := k_ (hKY KY (Nat.le_refl _))
         obtain ⟨KZ, hKZ⟩ := (FreeVars_same z SZ.out (by have := NYz.out; have := nd_pos y; omega)).1
         have HFZ := k_ (hKZ KZ (Nat.le_refl _))
         clear hKY hKZ
         have LFY := k_ (sfv_len y); have LFZ := k_ (sfv_len z)
         obtain ⟨KC, hKC⟩ := contains_ev (sfv z) (by have := NYz.out; have := LFZ.out; omega) x.f1
         have HKC := k_ (hKC KC (Nat.le_refl _))
         rw [HCF.out] at HKC
         clear hKC
         obtain ⟨KD, hKD⟩ := contains_ev (sfv y) (by have := NYz.out; have := LFY.out; omega) nm
         have HKD := k_ (hKD KD (Nat.le_refl _))
         rw [HCY.out] at HKD
         clear hKD
         have HRB := k_ (show renB x nm z = true by rw [renB_at z K3.out K4.out, ← HY.out, HCF.out, HCY.out]; rfl)
         go_wp2_with (first | ((with_reducible refine gate_dst (N := 9) rfl ?_); refine box_event ?hg (N := 9) ?hd (cs := #[.int .i64 0, .string ⟨#[]⟩, .int .i64 0, .int .i64 0, .slice none 0 0, .slice none 0 0, .slice none 0 0, .slice none 0 0]) (t := 35) ?hr ?_; (case hd => rfl); (case hg => rfl); (case hr => first | (go_simp; done) | (go_simp; rfl)); intro ga hg w12 hbox hb; have N_gx_ga := k_ (nwN hg HX.out); have N_ga_gx := k_ (Ne.symm N_gx_ga.out); have N_gy_ga := k_ (nwN hg HZ.out); have N_ga_gy := k_ (Ne.symm N_gy_ga.out); have N_gr_ga := k_ (nwN hg HR.out); have N_ga_gr := k_ (Ne.symm N_gr_ga.out); have N_gg_ga := k_ (nwN hg HG.out); have N_ga_gg := k_ (Ne.symm N_gg_ga.out); have D_HP_ga := k_ (nwD hg HP.out); have D_HQ_ga := k_ (nwD hg HQ.out); have G_ga := k_ (nwG hg HB.out); replace HX := k_ (blk_below HX.out hb); replace HZ := k_ (blk_below HZ.out hb); replace HR := k_ (blk_below HR.out hb); replace HG := k_ (blk_below HG.out hb); replace HP := k_ (Apt_below HP.out hb); replace HB := k_ (below_step HB.out hb); replace LN := k_ (Nat.le_trans LN.out (below_size hb)); replace HQ := k_ (Apt_below HQ.out hb); have HA := k_ hbox; clear hg hbox hb) | ((with_reducible refine gate_store (t := 35) (p := 9) rfl ?_); have r154 := blk8 HA.out; have z155 := blf8 HA.out; refine store_event (t := 35) (p := 9) (v := ?vo_156) (w1 := w12.setCells ga 0 [.int .i64 y.f0, .string y.f1, .int .i64 y.f2, .int .i64 y.f3.f0, .slice B1 y.f3.f1.length e1, .slice B2 y.f3.f2.length e2, .slice B3 y.f4.length e3, .slice B4 y.f5.length e4]) ?hg ?ho ?hn ?hr ?_; (case ho => rfl); (case hg => rfl); (case hn => rfl); (case hr => first | (go_simp; done) | (go_simp; rfl)); intro w13 hw; replace HX := k_ (bfw hw HX.out N_gx_ga.out); replace HZ := k_ (bfw hw HZ.out N_gy_ga.out); replace HR := k_ (bfw hw HR.out N_gr_ga.out); replace HG := k_ (bfw hw HG.out N_gg_ga.out); replace HP := k_ (apw hw HP.out D_HP_ga.out); replace HB := k_ (bew hw HB.out G_ga.out); replace LN := k_ (siw hw LN.out); replace HQ := k_ (apw hw HQ.out D_HQ_ga.out); replace HA := k_ (show w13.heap[ga]? = some (.cells #[.int .i64 y.f0, .string y.f1, .int .i64 y.f2, .int .i64 y.f3.f0, .slice B1 y.f3.f1.length e1, .slice B2 y.f3.f2.length e2, .slice B3 y.f4.length e3, .slice B4 y.f5.length e4] 35 (0, 0)) from bsw hw HA.out (by simp only [putA, sP, Nat.zero_add, Nat.reduceAdd])); clear hw; clear y0 y1 y2 y3 y4 y5 y6 y7) | (go_at_call 27; refine (impl_binds.calls KB ⟨gx, 0, none⟩ x.f0 x.f1 x.f2 x.f3.f0 _ _ x.f3.f1 _ _ x.f3.f2 _ _ x.f4 _ _ x.f5 (bdAt x) _ (Cells_blk HX.out) (Kd.C_below R1.out.1 HB.out) R1.out.2 (Kd.C_below R2.out.1 HB.out) R2.out.2 (Kd.C_below R3.out.1 HB.out) R3.out.2 (Kd.C_below R4.out.1 HB.out) R4.out.2 HKB.out).mono ?_; rintro e w14 ⟨rfl, hd⟩; have hb := Drawn0.below hd; replace HX := k_ (blk_below HX.out hb); replace HZ := k_ (blk_below HZ.out hb); replace HR := k_ (blk_below HR.out hb); replace HG := k_ (blk_below HG.out hb); replace HP := k_ (Apt_below HP.out hb); replace HB := k_ (below_step HB.out hb); replace LN := k_ (Nat.le_trans LN.out (below_size hb)); replace HQ := k_ (Apt_below HQ.out hb); replace HA := k_ (blk_below HA.out hb); clear hb hd; have r157 := blk8 HX.out; have r158 := blk8 HA.out; obtain ⟨n2, hn2⟩ : ∃ n, n = w14.heap.size := ⟨_, rfl⟩; have LN2 := k_ (show n2 ≤ w14.heap.size by rw [hn2]; exact Nat.le_refl _); have L2w := k_ (show w.heap.size ≤ n2 by rw [hn2]; exact below_size HB.out); have N2_gx := k_ (limB hn2 HX.out); have N2_gy := k_ (limB hn2 HZ.out); have N2_gr := k_ (limB hn2 HR.out); have N2_gg := k_ (limB hn2 HG.out); have N2_HP := k_ (limA hn2 HP.out); have N2_HQ := k_ (limA hn2 HQ.out); have N2_ga := k_ (limB hn2 HA.out); clear hn2) | (go_at_call 28; refine (impl_FreeVars.calls KY y.f0 y.f1 y.f2 y.f3.f0 _ _ y.f3.f1 _ _ y.f3.f2 _ _ y.f4 _ _ y.f5 (sfv y) _ (Kd.C_below M1.out.1 HB.out) M1.out.2 (Kd.C_below M2.out.1 HB.out) M2.out.2 (Kd.C_below M3.out.1 HB.out) M3.out.2 (Kd.C_below M4.out.1 HB.out) M4.out.2 HFY.out).mono ?_; have h2_ := k_ (show n2 ≤ w14.heap.size from LN2.out); rintro e w15 ⟨v_, rfl, ho, hb⟩; obtain ⟨AHF, cHF, rfl⟩ := Kd.R_slice ho; have HF1 := k_ (R_from (n := n2) ho h2_.out (below_size HB.out)); replace HX := k_ (blk_below HX.out hb); replace HZ := k_ (blk_below HZ.out hb); replace HR := k_ (blk_below HR.out hb); replace HG := k_ (blk_below HG.out hb); replace HP := k_ (Apt_below HP.out hb); replace HB := k_ (below_step HB.out hb); replace LN := k_ (Nat.le_trans LN.out (below_size hb)); replace HQ := k_ (Apt_below HQ.out hb); replace HA := k_ (blk_below HA.out hb); replace LN2 := k_ (Nat.le_trans LN2.out (below_size hb)); have HF := HF1; clear HF1 ho hb h2_))
         clear k3a k3b k4a k4b
         replace HX := k_ (blk_drew HX.out)
         replace HZ := k_ (blk_drew HZ.out)
         replace HR := k_ (blk_drew HR.out)
         replace HG := k_ (blk_drew HG.out)
         replace HP := k_ (Apt_below HP.out (below_drew1 (Below.refl _ _)))
         replace HB := k_ (below_drew1 HB.out)
         replace LN := k_ (show n1 ≤ w15.drew.heap.size from LN.out)
         replace HQ := k_ (Apt_below HQ.out (below_drew1 (Below.refl _ _)))
         replace HA := k_ (blk_drew HA.out)
         replace LN2 := k_ (show n2 ≤ w15.drew.heap.size from LN2.out)
         replace HF := k_ (Kd.R_below HF.out (below_drew1 (Below.refl _ _)))
         refine start_ (n := 10) (S := fun w' => (w'.heap[gy]? = some (.cells #[.int .i64 z.f0, .string z.f1, .int .i64 z.f2, .int .i64 z.f3.f0, .slice D1 z.f3.f1.length kz1, .slice D2 z.f3.f2.length kz2, .slice D3 z.f4.length kz3, .slice D4 z.f5.length kz4] 35 (0, 0))) ∧ (w'.heap[gx]? = some (.cells #[.int .i64 x.f0, .string x.f1, .int .i64 x.f2, .int .i64 x.f3.f0, .slice A1 x.f3.f1.length c1, .slice A2 x.f3.f2.length c2, .slice A3 x.f4.length c3, .slice (some ad) x.f5.length c4] 35 (0, 0)))) (ds := []) mSubI13 (by kernel_rfl) rfl rfl ⟨HZ.out, HX.out⟩ (fun hHeld => ?_); refine with_tabW tabS.tab9 tabS.bits9 (fun HT_ HW_ => ?_)
         generalize w15.drew = w16 at HX HZ HR HG HP HB LN HQ HA LN2 HF hHeld ⊢
         refine take_ (i := 0) (N := some 43) (v := ?_) (a' := ?_) mSubI14 rfl rfl (take_ofW HT_.out HW_.out (by kernel_rfl)) (fun _ _ _ h => h) (Or.inl ⟨by rfl, ?_⟩) hHeld ?_ ?_
         rotate_left
         ·rintro w' ⟨s0, s1⟩
          have q0 := blk8 s0
          have q1 := blk8 s1
          go_simp
          with_reducible rfl
         rotate_left
         ·simp only [Act.put, sP]
          rfl
         refine pure_ (i := 2) (N := some 45) (v := ?_) (a' := ?_) mSubI15 rfl rfl (any_of HT_.out (by kernel_rfl)) (fun _ _ _ h => h) (Or.inl ⟨by rfl, ?_⟩) ?_ ?_
         rotate_left
         ·intro w'
          go_simp
          try with_reducible rfl
         rotate_left
         ·simp only [Act.put, sP]
          rfl
         refine take_ (i := 3) (N := some 46) (v := ?_) (a' := ?_) mSubI17 rfl rfl (take_ofW HT_.out HW_.out (by kernel_rfl)) (fun _ _ _ h => h) (Or.inl ⟨by rfl, ?_⟩) hHeld ?_ ?_
         rotate_left
         ·rintro w' ⟨s0, s1⟩
          have q0 := blk8 s0
          have q1 := blk8 s1
          go_simp
          with_reducible rfl
         rotate_left
         ·simp only [Act.put, sP]
          rfl
         refine one_ (i := 1) (N := some 44) mSubI19 rfl rfl (one_of HT_.out (by kernel_rfl)) (by decide) (fun K hK => ?_)
         refine goes_ Tryd.func28 (by kernel_rfl) rfl #[.agg #[.int .i64 z.f0, .string z.f1, .int .i64 z.f2, .int .i64 z.f3.f0, .slice D1 z.f3.f1.length kz1, .slice D2 z.f3.f2.length kz2, .slice D3 z.f4.length kz3, .slice D4 z.f5.length kz4]] (by rfl) rfl rfl (by (try simp only [List.map_toArray, List.map_cons, List.map_nil]); first | done | rfl) ?_
         refine (impl_FreeVars.calls KZ z.f0 z.f1 z.f2 z.f3.f0 _ _ z.f3.f1 _ _ z.f3.f2 _ _ z.f4 _ _ z.f5 (sfv z) _ (Kd.C_below Z1.out.1 HB.out) Z1.out.2 (Kd.C_below Z2.out.1 HB.out) Z2.out.2 (Kd.C_below Z3.out.1 HB.out) Z3.out.2 (Kd.C_below Z4.out.1 HB.out) Z4.out.2 HFZ.out).mono ?_
         have h2_ := k_ (show n2 ≤ w16.heap.size from LN2.out)
         rintro e w17 ⟨v_, rfl, ho, hb⟩
         obtain ⟨AHV, cHV, rfl⟩ := Kd.R_slice ho
         refine ⟨_, rfl, ?_⟩
         have HV1 := k_ (R_from (n := n2) ho h2_.out (below_size HB.out))
         replace HX := k_ (blk_below HX.out hb)
         replace HZ := k_ (blk_below HZ.out hb)
         replace HR := k_ (blk_below HR.out hb)
         replace HG := k_ (blk_below HG.out hb)
         replace HP := k_ (Apt_below HP.out hb)
         replace HB := k_ (below_step HB.out hb)
         replace LN := k_ (Nat.le_trans LN.out (below_size hb))
         replace HQ := k_ (Apt_below HQ.out hb)
         replace HA := k_ (blk_below HA.out hb)
         replace LN2 := k_ (Nat.le_trans LN2.out (below_size hb))
         replace HF := k_ (Kd.R_below HF.out hb)
         have HV := HV1
         clear HV1 ho hb h2_
         refine hK.out _ _ ⟨HZ.out, HX.out⟩ (fun hHeld => ?_)
         clear hK K
         refine norm_ (a' := ?_) ?_ ?_
         rotate_left
         ·show Act.put _ (some 44) _ = _
          simp only [Act.put, sP]
          rfl
         refine one_ (i := 4) (N := some 47) mSubI20 rfl rfl (one_of HT_.out (by kernel_rfl)) (by decide) (fun K hK => ?_)
         refine goes_ Tryd.func29 (by kernel_rfl) rfl #[.slice AHV (sfv z).length cHV, .string x.f1] (by rfl) rfl rfl (by (try simp only [List.map_toArray, List.map_cons, List.map_nil]); first | done | rfl) ?_
         refine (slices_Contains_string_string.calls KC _ _ (sfv z) x.f1 true _ (Kd.R_reads' HV.out).2.2 (Kd.R_reads' HV.out).2.1 HKC.out).mono ?_
         rintro e w18 ⟨rfl, hd⟩
         refine ⟨_, rfl, ?_⟩
         have hb := Drawn0.below hd
         replace HX := k_ (blk_below HX.out hb)
         replace HZ := k_ (blk_below HZ.out hb)
         replace HR := k_ (blk_below HR.out hb)
         replace HG := k_ (blk_below HG.out hb)
         replace HP := k_ (Apt_below HP.out hb)
         replace HB := k_ (below_step HB.out hb)
         replace LN := k_ (Nat.le_trans LN.out (below_size hb))
         replace HQ := k_ (Apt_below HQ.out hb)
         replace HA := k_ (blk_below HA.out hb)
         replace LN2 := k_ (Nat.le_trans LN2.out (below_size hb))
         replace HF := k_ (Kd.R_below HF.out hb)
         replace HV := k_ (Kd.R_below HV.out hb)
         clear hb hd
         refine hK.out _ _ ⟨HZ.out, HX.out⟩ (fun hHeld => ?_)
         clear hK K
         refine norm_ (a' := ?_) ?_ ?_
         rotate_left
         ·show Act.put _ (some 47) _ = _
          simp only [Act.put, sP]
          rfl
         refine pure_ (i := 5) (N := some 48) (v := ?_) (a' := ?_) mSubI21 rfl rfl (any_of HT_.out (by kernel_rfl)) (fun _ _ _ h => h) (Or.inl ⟨by rfl, ?_⟩) ?_ ?_
         rotate_left
         ·intro w'
          go_simp
          try with_reducible rfl
         rotate_left
         ·simp only [Act.put, sP]
          rfl
         refine pure_ (i := 6) (N := some 49) (v := ?_) (a' := ?_) mSubI22 rfl rfl (any_of HT_.out (by kernel_rfl)) (fun _ _ _ h => h) (Or.inl ⟨by rfl, ?_⟩) ?_ ?_
         rotate_left
         ·intro w'
          go_simp
          try with_reducible rfl
         rotate_left
         ·simp only [Act.put, sP]
          rfl
         refine pure_ (i := 7) (N := some 50) (v := ?_) (a' := ?_) mSubI23 rfl rfl (any_of HT_.out (by kernel_rfl)) (fun _ _ _ h => h) (Or.inl ⟨by rfl, ?_⟩) ?_ ?_
         rotate_left
         ·intro w'
          go_simp
          try with_reducible rfl
         rotate_left
         ·simp only [Act.put, sP]
          rfl
         refine one_ (i := 8) (N := some 51) mSubI24 rfl rfl (one_of HT_.out (by kernel_rfl)) (by decide) (fun K hK => ?_)
         refine goes_ Tryd.func29 (by kernel_rfl) rfl #[.slice AHF (sfv y).length cHF, .string nm] (by rfl) rfl rfl (by (try simp only [List.map_toArray, List.map_cons, List.map_nil]); first | done | rfl) ?_
         refine (slices_Contains_string_string.calls KD _ _ (sfv y) nm true _ (Kd.R_reads' HF.out).2.2 (Kd.R_reads' HF.out).2.1 HKD.out).mono ?_
         rintro e w19 ⟨rfl, hd⟩
         refine ⟨_, rfl, ?_⟩
         have hb := Drawn0.below hd
         replace HX := k_ (blk_below HX.out hb)
         replace HZ := k_ (blk_below HZ.out hb)
         replace HR := k_ (blk_below HR.out hb)
         replace HG := k_ (blk_below HG.out hb)
         replace HP := k_ (Apt_below HP.out hb)
         replace HB := k_ (below_step HB.out hb)
         replace LN := k_ (Nat.le_trans LN.out (below_size hb))
         replace HQ := k_ (Apt_below HQ.out hb)
         replace HA := k_ (blk_below HA.out hb)
         replace LN2 := k_ (Nat.le_trans LN2.out (below_size hb))
         replace HF := k_ (Kd.R_below HF.out hb)
         replace HV := k_ (Kd.R_below HV.out hb)
         clear hb hd
         refine hK.out _ _ ⟨HZ.out, HX.out⟩ (fun hHeld => ?_)
         clear hK K
         refine norm_ (a' := ?_) ?_ ?_
         rotate_left
         ·show Act.put _ (some 51) _ = _
          simp only [Act.put, sP]
          rfl
         refine pure_ (i := 9) (N := some 52) (v := ?_) (a' := ?_) mSubI25 rfl rfl (any_of HT_.out (by kernel_rfl)) (fun _ _ _ h => h) (Or.inl ⟨by rfl, ?_⟩) ?_ ?_
         rotate_left
         ·intro w'
          go_simp
          try with_reducible rfl
         rotate_left
         ·simp only [Act.put, sP]
          rfl
         refine done_ (done_of HT_.out (by kernel_rfl)) ?_
         clear HT_ HW_
         clear hHeld
         clear HV
         have HFL := k_ (show frL x nm z = sfv z ++ sfv y ++ [nm] by rw [frL_at z K3.out, ← HY.out])
         have HFE := fresh_ev (frL x nm z) (by rw [HFL.out]; have := LFY.out; have := LFZ.out; have := NYz.out; simp only [List.length_append, List.length_cons, List.length_nil]; omega)
         obtain ⟨fr, hfr⟩ : ∃ s_, s_ = freshN (frL x nm z) := ⟨_, rfl⟩
         rw [← hfr] at HFE
         have HFR := k_ hfr
         obtain ⟨KR, hKR⟩ := HFE.2.1
         have HKR := k_ (hKR KR (Nat.le_refl _)); have HFS := k_ (show fr.size ≤ 1048576 by have := HFE.2.2; omega)
         rw [HFL.out] at HKR
         clear hKR HFE hfr
         have r159 := blk8 HZ.out
         go_wp2_with (first | (go_at_call 28; refine (impl_FreeVars.calls KZ z.f0 z.f1 z.f2 z.f3.f0 _ _ z.f3.f1 _ _ z.f3.f2 _ _ z.f4 _ _ z.f5 (sfv z) _ (Kd.C_below Z1.out.1 HB.out) Z1.out.2 (Kd.C_below Z2.out.1 HB.out) Z2.out.2 (Kd.C_below Z3.out.1 HB.out) Z3.out.2 (Kd.C_below Z4.out.1 HB.out) Z4.out.2 HFZ.out).mono ?_; have h2_ := k_ (show n2 ≤ w19.heap.size from LN2.out); rintro e w20 ⟨v_, rfl, ho, hb⟩; obtain ⟨AHV, cHV, rfl⟩ := Kd.R_slice ho; have HV1 := k_ (R_from (n := n2) ho h2_.out (below_size HB.out)); replace HX := k_ (blk_below HX.out hb); replace HZ := k_ (blk_below HZ.out hb); replace HR := k_ (blk_below HR.out hb); replace HG := k_ (blk_below HG.out hb); replace HP := k_ (Apt_below HP.out hb); replace HB := k_ (below_step HB.out hb); replace LN := k_ (Nat.le_trans LN.out (below_size hb)); replace HQ := k_ (Apt_below HQ.out hb); replace HA := k_ (blk_below HA.out hb); replace LN2 := k_ (Nat.le_trans LN2.out (below_size hb)); replace HF := k_ (Kd.R_below HF.out hb); have HV := HV1; clear HV1 ho hb h2_) | ((with_reducible refine gate_builtin (b := .append) (xs := #[.tmp 54, .tmp 55]) rfl ?_); at_builtin; refine Kd.R_append_rows Kd.string (w0 := w) w.heap.size rfl (.tmp 54) (.tmp 55) 22 9 (.string ⟨#[]⟩) 16 rfl Tryd.underlying22 info9 rfl (by decide) (by omega) (.slice AHV (sfv z).length cHV) (sfv z) (sfv y) _ _ _ (fun k_ => n2 ≤ k_) (fun _ => False) rfl rfl ?aO ?aR (fun _ _ h => h) (fun _ h => h.elim) ?aF ?aB ?aS ?aL ?_; (case aR => exact (Kd.R_reads' HF.out).2.2); (case aB => exact HB.out); (case aF => exact (fun k_ h_ => Nat.le_trans LN2.out h_)); (case aO => exact HV.out); (case aS => exact below_size HB.out); (case aL => have := LFY.out; have := LFZ.out; have := NYz.out; omega); intro v1 w21 ho hb1 hg hat; replace HX := k_ (blk_grown HX.out hg (fun he => absurd (HV.out.1 _ he.symm) (by have := N2_gx.out; omega))); replace HZ := k_ (blk_grown HZ.out hg (fun he => absurd (HV.out.1 _ he.symm) (by have := N2_gy.out; omega))); replace HR := k_ (blk_grown HR.out hg (fun he => absurd (HV.out.1 _ he.symm) (by have := N2_gr.out; omega))); replace HG := k_ (blk_grown HG.out hg (fun he => absurd (HV.out.1 _ he.symm) (by have := N2_gg.out; omega))); replace HP := k_ (Apt_grown HP.out hg (fun b hb_ he => absurd (HV.out.1 b he.symm) (by have := N2_HP.out b hb_; omega))); replace HB := k_ (hb1); replace LN := k_ (Nat.le_trans LN.out hg.size); replace HQ := k_ (Apt_grown HQ.out hg (fun b hb_ he => absurd (HV.out.1 b he.symm) (by have := N2_HQ.out b hb_; omega))); replace HA := k_ (blk_grown HA.out hg (fun he => absurd (HV.out.1 _ he.symm) (by have := N2_ga.out; omega))); replace LN2 := k_ (Nat.le_trans LN2.out hg.size); clear HV HF; obtain ⟨l1_, hl1⟩ : ∃ l, l = sfv z ++ sfv y := ⟨_, rfl⟩; rw [← hl1] at ho; have HL1 := k_ hl1; clear hl1; obtain ⟨Av1, cv1, rfl⟩ := Kd.R_slice ho; have HV := k_ ho; clear ho hb1 hg hat) | ((with_reducible refine gate_builtin (b := .append) (xs := #[.tmp 56, .tmp 58]) rfl ?_); at_builtin; refine Kd.R_append Kd.string (w0 := w) w.heap.size rfl (.tmp 56) (.tmp 58) 22 9 (.string ⟨#[]⟩) 16 rfl Tryd.underlying22 info9 rfl (by decide) (by omega) (.slice Av1 l1_.length cv1) l1_ nm [.string nm] (fun k_ => n2 ≤ k_) (fun _ => False) rfl rfl ?aP (fun _ hk => hk.elim) ?aF ?aO ?aB ?aS ?aL ?_; (case aP => exact rfl); (case aB => exact HB.out); (case aF => exact (fun k_ h_ => Nat.le_trans LN2.out h_)); (case aO => exact HV.out); (case aS => exact below_size HB.out); (case aL => have := LFY.out; have := LFZ.out; have := NYz.out; rw [HL1.out, List.length_append]; omega); intro v2 w22 ho hb1 hg hat; replace HX := k_ (blk_grown HX.out hg (fun he => absurd (HV.out.1 _ he.symm) (by have := N2_gx.out; omega))); replace HZ := k_ (blk_grown HZ.out hg (fun he => absurd (HV.out.1 _ he.symm) (by have := N2_gy.out; omega))); replace HR := k_ (blk_grown HR.out hg (fun he => absurd (HV.out.1 _ he.symm) (by have := N2_gr.out; omega))); replace HG := k_ (blk_grown HG.out hg (fun he => absurd (HV.out.1 _ he.symm) (by have := N2_gg.out; omega))); replace HP := k_ (Apt_grown HP.out hg (fun b hb_ he => absurd (HV.out.1 b he.symm) (by have := N2_HP.out b hb_; omega))); replace HB := k_ (hb1); replace LN := k_ (Nat.le_trans LN.out hg.size); replace HQ := k_ (Apt_grown HQ.out hg (fun b hb_ he => absurd (HV.out.1 b he.symm) (by have := N2_HQ.out b hb_; omega))); replace HA := k_ (blk_grown HA.out hg (fun he => absurd (HV.out.1 _ he.symm) (by have := N2_ga.out; omega))); replace LN2 := k_ (Nat.le_trans LN2.out hg.size); clear HV; obtain ⟨l2_, hl2⟩ : ∃ l, l = l1_ ++ [nm] := ⟨_, rfl⟩; rw [← hl2] at ho; have HL2 := k_ hl2; clear hl2; obtain ⟨Av2, cv2, rfl⟩ := Kd.R_slice ho; have HV := k_ ho; clear ho hb1 hg hat) | (go_at_call 30; refine (impl_FreshVar.calls KR _ _ l2_ fr _ (Kd.R_reads' HV.out).2.2 (Kd.R_reads' HV.out).2.1 (Laid_below HL.out HB.out) (by rw [HL2.out, HL1.out]; exact HKR.out)).mono ?_; rintro e w23 ⟨rfl, hb⟩; clear HV; replace HX := k_ (blk_below HX.out hb); replace HZ := k_ (blk_below HZ.out hb); replace HR := k_ (blk_below HR.out hb); replace HG := k_ (blk_below HG.out hb); replace HP := k_ (Apt_below HP.out hb); replace HB := k_ (below_step HB.out hb); replace LN := k_ (Nat.le_trans LN.out (below_size hb)); replace HQ := k_ (Apt_below HQ.out hb); replace HA := k_ (blk_below HA.out hb); replace LN2 := k_ (Nat.le_trans LN2.out (below_size hb)); clear hb) | ((with_reducible refine gate_store (t := 9) (p := 62) rfl ?_); have r160 := blk8 HG.out; have z161 := blf8 HG.out; refine store_event (t := 9) (p := 62) (v := ?vo_162) (w1 := w23.setCells gg 1 [.string fr]) ?hg ?ho ?hn ?hr ?_; (case ho => rfl); (case hg => rfl); (case hn => rfl); (case hr => first | (go_simp; done) | (go_simp; rfl)); intro w24 hw; replace HX := k_ (bfw hw HX.out N_gx_gg.out); replace HZ := k_ (bfw hw HZ.out N_gy_gg.out); replace HR := k_ (bfw hw HR.out N_gr_gg.out); replace HG := k_ (show w24.heap[gg]? = some (.cells #[.int .i64 x.f0, .string fr, .int .i64 x.f2, .int .i64 x.f3.f0, .slice P1 x.f3.f1.length q1, .slice P2 x.f3.f2.length q2, .slice Ao x.f4.length co, .slice Au i cu] 35 (0, 0)) from bsw hw HG.out (by simp only [putA, sP, Nat.zero_add, Nat.reduceAdd])); replace HP := k_ (apw hw HP.out D_HP_gg.out); replace HB := k_ (bew hw HB.out G_gg.out); replace LN := k_ (siw hw LN.out); replace HQ := k_ (apw hw HQ.out D_HQ_gg.out); replace HA := k_ (bfw hw HA.out N_ga_gg.out); clear hw))
         clear LN2
         replace HX := k_ (blk_drew HX.out)
         replace HZ := k_ (blk_drew HZ.out)
         replace HR := k_ (blk_drew HR.out)
         replace HG := k_ (blk_drew HG.out)
         replace HP := k_ (Apt_below HP.out (below_drew1 (Below.refl _ _)))
         replace HB := k_ (below_drew1 HB.out)
         replace LN := k_ (show n1 ≤ w24.drew.heap.size from LN.out)
         replace HQ := k_ (Apt_below HQ.out (below_drew1 (Below.refl _ _)))
         replace HA := k_ (blk_drew HA.out)
         refine start_ (n := 7) (S := fun w' => (w'.heap[ga]? = some (.cells #[.int .i64 y.f0, .string y.f1, .int .i64 y.f2, .int .i64 y.f3.f0, .slice B1 y.f3.f1.length e1, .slice B2 y.f3.f2.length e2, .slice B3 y.f4.length e3, .slice B4 y.f5.length e4] 35 (0, 0))) ∧ (w'.heap[gx]? = some (.cells #[.int .i64 x.f0, .string x.f1, .int .i64 x.f2, .int .i64 x.f3.f0, .slice A1 x.f3.f1.length c1, .slice A2 x.f3.f2.length c2, .slice A3 x.f4.length c3, .slice (some ad) x.f5.length c4] 35 (0, 0)))) (ds := [6]) mSubI33 (by kernel_rfl) rfl rfl ⟨HA.out, HX.out⟩ (fun hHeld => ?_); refine with_tabW tabS.tab12 tabS.bits12 (fun HT_ HW_ => ?_)
         generalize w24.drew = w25 at HX HZ HR HG HP HB LN HQ HA hHeld ⊢
         refine take_ (i := 0) (N := some 63) (v := ?_) (a' := ?_) mSubI36 rfl rfl (take_ofW HT_.out HW_.out (by kernel_rfl)) (fun _ _ _ h => h) (Or.inl ⟨by rfl, ?_⟩) hHeld ?_ ?_
         rotate_left
         ·rintro w' ⟨s0, s1⟩
          have q0 := blk8 s0
          have q1 := blk8 s1
          go_simp
          with_reducible rfl
         rotate_left
         ·simp only [Act.put, sP]
          rfl
         refine pure_ (i := 1) (N := some 64) (v := ?_) (a' := ?_) mSubI37 rfl rfl (any_of HT_.out (by kernel_rfl)) (fun _ _ _ h => h) (Or.inl ⟨by rfl, ?_⟩) ?_ ?_
         rotate_left
         ·intro w'
          go_simp
          try with_reducible rfl
         rotate_left
         ·simp only [Act.put, sP]
          rfl
         refine take_ (i := 2) (N := some 65) (v := ?_) (a' := ?_) mSubI38 rfl rfl (take_ofW HT_.out HW_.out (by kernel_rfl)) (fun _ _ _ h => h) (Or.inl ⟨by rfl, ?_⟩) hHeld ?_ ?_
         rotate_left
         ·rintro w' ⟨s0, s1⟩
          have q0 := blk8 s0
          have q1 := blk8 s1
          go_simp
          with_reducible rfl
         rotate_left
         ·simp only [Act.put, sP]
          rfl
         refine pure_ (i := 3) (N := some 66) (v := ?_) (a' := ?_) mSubI39 rfl rfl (any_of HT_.out (by kernel_rfl)) (fun _ _ _ h => h) (Or.inl ⟨by rfl, ?_⟩) ?_ ?_
         rotate_left
         ·intro w'
          go_simp
          try with_reducible rfl
         rotate_left
         ·simp only [Act.put, sP]
          rfl
         refine one_ (i := 4) (N := some 67) mSubI40 rfl rfl (one_of HT_.out (by kernel_rfl)) (by decide) (fun K hK => ?_)
         refine goes_ Tryd.func31 (by kernel_rfl) rfl #[.string fr] (by rfl) rfl rfl (by (try simp only [List.map_toArray, List.map_cons, List.map_nil]); first | done | rfl) ?_
         refine (impl_varTerm.calls fr 1 fr 0 0 [] [] [] [] _ (by rfl)).mono ?_
         rintro e w26 ⟨v4, v5, v6, v7, rfl, o4, o5, o6, o7, hb⟩
         obtain ⟨a4, b4, rfl⟩ := Kd.R_slice o4
         obtain ⟨a5, b5, rfl⟩ := Kd.R_slice o5
         obtain ⟨a6, b6, rfl⟩ := Kd.R_slice o6
         obtain ⟨a7, b7, rfl⟩ := Kd.R_slice o7
         refine ⟨.agg #[.int .i64 1, .string fr, .int .i64 0, .int .i64 0, .slice a4 ([] : List ByteArray).length b4, .slice a5 ([] : List S32).length b5, .slice a6 ([] : List ByteArray).length b6, .slice a7 ([] : List S35).length b7], rfl, ?_⟩
         have V1 := k_ (And.intro (Kd.R_reads' o4).2.2 (Kd.R_reads' o4).2.1)
         have V2 := k_ (And.intro (Kd.R_reads' o5).2.2 (Kd.R_reads' o5).2.1)
         have V3 := k_ (And.intro (Kd.R_reads' o6).2.2 (Kd.R_reads' o6).2.1)
         have V4 := k_ (And.intro (Kd.R_reads' o7).2.2 (Kd.R_reads' o7).2.1)
         replace HX := k_ (blk_below HX.out hb)
         replace HZ := k_ (blk_below HZ.out hb)
         replace HR := k_ (blk_below HR.out hb)
         replace HG := k_ (blk_below HG.out hb)
         replace HP := k_ (Apt_below HP.out hb)
         replace HB := k_ (below_step HB.out hb)
         replace LN := k_ (Nat.le_trans LN.out (below_size hb))
         replace HQ := k_ (Apt_below HQ.out hb)
         replace HA := k_ (blk_below HA.out hb)
         clear o4 o5 o6 o7 hb
         refine hK.out _ _ ⟨HA.out, HX.out⟩ (fun hHeld => ?_)
         clear hK K
         refine norm_ (a' := ?_) ?_ ?_
         rotate_left
         ·show Act.put _ (some 67) _ = _
          simp only [Act.put, sP]
          rfl
         refine one_ (i := 5) (N := some 68) mSubI41 rfl rfl (one_of HT_.out (by kernel_rfl)) (by decide) (fun K hK => ?_)
         refine goes_ Tryd.func7 (by kernel_rfl) rfl #[.agg #[.int .i64 y.f0, .string y.f1, .int .i64 y.f2, .int .i64 y.f3.f0, .slice B1 y.f3.f1.length e1, .slice B2 y.f3.f2.length e2, .slice B3 y.f4.length e3, .slice B4 y.f5.length e4], .string x.f1, .agg #[.int .i64 1, .string fr, .int .i64 0, .int .i64 0, .slice a4 ([] : List ByteArray).length b4, .slice a5 ([] : List S32).length b5, .slice a6 ([] : List ByteArray).length b6, .slice a7 ([] : List S35).length b7]] (by rfl) rfl rfl (by (try simp only [List.map_toArray, List.map_cons, List.map_nil]); first | done | rfl) ?_
         refine (IH.out y x.f1 (varT fr) SMY.out (sm_varT fr HFS.out) NYk.out (by rw [nd_varT]; have := NYz.out; have := nd_pos z; omega) B1 e1 B2 e2 B3 e3 B4 e4 a4 b4 a5 b5 a6 b6 a7 b7 _ ⟨Kd.C_below M1.out.1 HB.out, M1.out.2⟩ ⟨Kd.C_below M2.out.1 HB.out, M2.out.2⟩ ⟨Kd.C_below M3.out.1 HB.out, M3.out.2⟩ ⟨Kd.C_below M4.out.1 HB.out, M4.out.2⟩ V1.out V2.out V3.out V4.out (Laid_below HL.out HB.out)).mono ?_
         rintro e w27 ⟨hs, rfl, hE, hA, hb⟩
         obtain ⟨y2, hy2⟩ : ∃ t_, t_ = subF k y x.f1 (varT fr) := ⟨_, rfl⟩
         rw [← hy2] at hE
         have HY2 := k_ hy2
         have SM2 := k_ (show SmTerm y2 by rw [hy2]; exact sm_subF k y x.f1 (varT fr) SMY.out (sm_varT fr HFS.out) (by rw [nd_varT]; have := NYz.out; have := nd_pos z; omega))
         have N2y := k_ (show ndTerm y2 ≤ ndTerm y by rw [hy2]; exact nd_subV k y x.f1 fr)
         clear hy2
         obtain ⟨E1, ce1, E2, ce2, E3, ce3, E4, ce4, us2, ds2, rfl, hus2, hds2⟩ := TeE_open hE hA
         refine ⟨.agg #[.int .i64 y2.f0, .string y2.f1, .int .i64 y2.f2, .int .i64 y2.f3.f0, .slice E1 y2.f3.f1.length ce1, .slice E2 y2.f3.f2.length ce2, .slice E3 y2.f4.length ce3, .slice E4 y2.f5.length ce4], rfl, ?_⟩
         have D_HS_gx := k_ (Apt_ge hA (blk_lt HX.out))
         have D_HS_gy := k_ (Apt_ge hA (blk_lt HZ.out))
         have D_HS_gr := k_ (Apt_ge hA (blk_lt HR.out))
         have D_HS_gg := k_ (Apt_ge hA (blk_lt HG.out))
         have D_HS_ga := k_ (Apt_ge hA (blk_lt HA.out))
         have HS1 := k_ (Apt_lower hA (below_size HB.out)); have HUS2 := k_ hus2; have HDS2 := k_ hds2
         replace HX := k_ (blk_below HX.out hb)
         replace HZ := k_ (blk_below HZ.out hb)
         replace HR := k_ (blk_below HR.out hb)
         replace HG := k_ (blk_below HG.out hb)
         replace HP := k_ (Apt_below HP.out hb)
         replace HB := k_ (below_step HB.out hb)
         replace LN := k_ (Nat.le_trans LN.out (below_size hb))
         replace HQ := k_ (Apt_below HQ.out hb)
         replace HA := k_ (blk_below HA.out hb)
         have HS := HS1
         clear HS1 hA hE hus2 hds2 hb V1 V2 V3 V4
         refine hK.out _ _ ⟨HA.out, HX.out⟩ (fun hHeld => ?_)
         clear hK K
         refine norm_ (a' := ?_) ?_ ?_
         rotate_left
         ·show Act.put _ (some 68) _ = _
          simp only [Act.put, sP]
          rfl
         refine last_ (i := 6) (N := none) mSubI42 rfl rfl (one_of HT_.out (by kernel_rfl)) (by decide) (fun K hK => ?_)
         have r163 := blk8 HA.out
         have z164 := blf8 HA.out
         refine skip_ (w1 := w27.setCells ga 0 [.int .i64 y2.f0, .string y2.f1, .int .i64 y2.f2, .int .i64 y2.f3.f0, .slice E1 y2.f3.f1.length ce1, .slice E2 y2.f3.f2.length ce2, .slice E3 y2.f4.length ce3, .slice E4 y2.f5.length ce4]) (by rfl) rfl (by go_simp; rfl) ?_
         obtain ⟨w28, hw⟩ : ∃ w_, w_ = w27.setCells ga 0 [.int .i64 y2.f0, .string y2.f1, .int .i64 y2.f2, .int .i64 y2.f3.f0, .slice E1 y2.f3.f1.length ce1, .slice E2 y2.f3.f2.length ce2, .slice E3 y2.f4.length ce3, .slice E4 y2.f5.length ce4] := ⟨_, rfl⟩
         rw [← hw]
         replace HX := k_ (bfw hw HX.out N_gx_ga.out)
         replace HZ := k_ (bfw hw HZ.out N_gy_ga.out)
         replace HR := k_ (bfw hw HR.out N_gr_ga.out)
         replace HG := k_ (bfw hw HG.out N_gg_ga.out)
         replace HP := k_ (apw hw HP.out D_HP_ga.out)
         replace HB := k_ (bew hw HB.out G_ga.out)
         replace LN := k_ (siw hw LN.out)
         replace HQ := k_ (apw hw HQ.out D_HQ_ga.out)
         replace HA := k_ (show w28.heap[ga]? = some (.cells #[.int .i64 y2.f0, .string y2.f1, .int .i64 y2.f2, .int .i64 y2.f3.f0, .slice E1 y2.f3.f1.length ce1, .slice E2 y2.f3.f2.length ce2, .slice E3 y2.f4.length ce3, .slice E4 y2.f5.length ce4] 35 (0, 0)) from bsw hw HA.out (by simp only [putA, sP, Nat.zero_add, Nat.reduceAdd]))
         replace HS := k_ (apw hw HS.out D_HS_ga.out)
         clear hw
         refine hK.out _ _ ?_
         clear hK K
         refine done_ (done_of HT_.out (by kernel_rfl)) ?_
         clear HT_ HW_
         clear hHeld
         try go_wp2
         replace HX := k_ (blk_drew HX.out)
         replace HZ := k_ (blk_drew HZ.out)
         replace HR := k_ (blk_drew HR.out)
         replace HG := k_ (blk_drew HG.out)
         replace HP := k_ (Apt_below HP.out (below_drew1 (Below.refl _ _)))
         replace HB := k_ (below_drew1 HB.out)
         replace LN := k_ (show n1 ≤ w28.drew.heap.size from LN.out)
         replace HQ := k_ (Apt_below HQ.out (below_drew1 (Below.refl _ _)))
         replace HA := k_ (blk_drew HA.out)
         replace HS := k_ (Apt_below HS.out (below_drew1 (Below.refl _ _)))
         refine start_ (n := 10) (S := fun w' => (w'.heap[gg]? = some (.cells #[.int .i64 x.f0, .string fr, .int .i64 x.f2, .int .i64 x.f3.f0, .slice P1 x.f3.f1.length q1, .slice P2 x.f3.f2.length q2, .slice Ao x.f4.length co, .slice Au i cu] 35 (0, 0))) ∧ (w'.heap[ga]? = some (.cells #[.int .i64 y2.f0, .string y2.f1, .int .i64 y2.f2, .int .i64 y2.f3.f0, .slice E1 y2.f3.f1.length ce1, .slice E2 y2.f3.f2.length ce2, .slice E3 y2.f4.length ce3, .slice E4 y2.f5.length ce4] 35 (0, 0))) ∧ (w'.heap[gy]? = some (.cells #[.int .i64 z.f0, .string z.f1, .int .i64 z.f2, .int .i64 z.f3.f0, .slice D1 z.f3.f1.length kz1, .slice D2 z.f3.f2.length kz2, .slice D3 z.f4.length kz3, .slice D4 z.f5.length kz4] 35 (0, 0)))) (ds := [9]) mSubI13 (by kernel_rfl) rfl rfl ⟨HG.out, HA.out, HZ.out⟩ (fun hHeld => ?_); refine with_tabW tabS.tab13 tabS.bits13 (fun HT_ HW_ => ?_)
         generalize w28.drew = w29 at HX HZ HR HG HP HB LN HQ HA HS hHeld ⊢
         refine pure_ (i := 0) (N := some 69) (v := ?_) (a' := ?_) mSubI14 rfl rfl (any_of HT_.out (by kernel_rfl)) (fun _ _ _ h => h) (Or.inl ⟨by rfl, ?_⟩) ?_ ?_
         rotate_left
         ·intro w'
          go_simp
          try with_reducible rfl
         rotate_left
         ·simp only [Act.put, sP]
          rfl
         refine pure_ (i := 3) (N := some 72) (v := ?_) (a' := ?_) mSubI16 rfl rfl (any_of HT_.out (by kernel_rfl)) (fun _ _ _ h => h) (Or.inl ⟨by rfl, ?_⟩) ?_ ?_
         rotate_left
         ·intro w'
          go_simp
          try with_reducible rfl
         rotate_left
         ·simp only [Act.put, sP]
          rfl
         refine take_ (i := 1) (N := some 70) (v := ?_) (a' := ?_) mSubI18 rfl rfl (take_ofW HT_.out HW_.out (by kernel_rfl)) (fun _ _ _ h => h) (Or.inl ⟨by rfl, ?_⟩) hHeld ?_ ?_
         rotate_left
         ·rintro w' ⟨s0, s1, s2⟩
          have q0 := blk8 s0
          have q1 := blk8 s1
          have q2 := blk8 s2
          go_simp
          with_reducible rfl
         rotate_left
         ·simp only [Act.put, sP]
          rfl
         refine take_ (i := 2) (N := some 71) (v := ?_) (a' := ?_) mSubI19 rfl rfl (take_ofW HT_.out HW_.out (by kernel_rfl)) (fun _ _ _ h => h) (Or.inl ⟨by rfl, ?_⟩) hHeld ?_ ?_
         rotate_left
         ·rintro w' ⟨s0, s1, s2⟩
          have q0 := blk8 s0
          have q1 := blk8 s1
          have q2 := blk8 s2
          go_simp
          with_reducible rfl
         rotate_left
         ·simp only [Act.put, sP]
          rfl
         refine take_ (i := 4) (N := some 73) (v := ?_) (a' := ?_) mSubI20 rfl rfl (take_ofW HT_.out HW_.out (by kernel_rfl)) (fun _ _ _ h => h) (Or.inl ⟨by rfl, ?_⟩) hHeld ?_ ?_
         rotate_left
         ·rintro w' ⟨s0, s1, s2⟩
          have q0 := blk8 s0
          have q1 := blk8 s1
          have q2 := blk8 s2
          go_simp
          with_reducible rfl
         rotate_left
         ·simp only [Act.put, sP]
          rfl
         refine one_ (i := 5) (N := some 74) mSubI21 rfl rfl (one_of HT_.out (by kernel_rfl)) (by decide) (fun K hK => ?_)
         have HM := k_ (Apt_lt HQ.out)
         have HW0 := k_ (show n1 ≤ w29.heap.size from LN.out)
         have TC := TeE_C HS.out HUS2.out HDS2.out
         refine goes_ Tryd.func7 (by kernel_rfl) rfl #[.agg #[.int .i64 y2.f0, .string y2.f1, .int .i64 y2.f2, .int .i64 y2.f3.f0, .slice E1 y2.f3.f1.length ce1, .slice E2 y2.f3.f2.length ce2, .slice E3 y2.f4.length ce3, .slice E4 y2.f5.length ce4], .string nm, .agg #[.int .i64 z.f0, .string z.f1, .int .i64 z.f2, .int .i64 z.f3.f0, .slice D1 z.f3.f1.length kz1, .slice D2 z.f3.f2.length kz2, .slice D3 z.f4.length kz3, .slice D4 z.f5.length kz4]] (by rfl) rfl rfl (by (try simp only [List.map_toArray, List.map_cons, List.map_nil]); first | done | rfl) ?_
         refine (IH.out y2 nm z SM2.out SZ.out (by have := N2y.out; have := NYk.out; omega) (by have := N2y.out; have := NYz.out; omega) E1 ce1 E2 ce2 E3 ce3 E4 ce4 D1 kz1 D2 kz2 D3 kz3 D4 kz4 _ TC.1 TC.2.1 TC.2.2.1 TC.2.2.2 ⟨Kd.C_below Z1.out.1 HB.out, Z1.out.2⟩ ⟨Kd.C_below Z2.out.1 HB.out, Z2.out.2⟩ ⟨Kd.C_below Z3.out.1 HB.out, Z3.out.2⟩ ⟨Kd.C_below Z4.out.1 HB.out, Z4.out.2⟩ (Laid_below HL.out HB.out)).mono ?_
         clear TC HS
         rintro e w30 ⟨hs, rfl, hE, hA, hb⟩
         obtain ⟨t, ht_⟩ : ∃ t_, t_ = subF k y2 nm z := ⟨_, rfl⟩
         rw [← ht_] at hE
         have HT_E := k_ ht_
         clear ht_
         obtain ⟨Q1, cq1, Q2, cq2, Q3, cq3, Q4, cq4, us', ds, rfl, hus', hds⟩ := TeE_open hE hA
         refine ⟨.agg #[.int .i64 t.f0, .string t.f1, .int .i64 t.f2, .int .i64 t.f3.f0, .slice Q1 t.f3.f1.length cq1, .slice Q2 t.f3.f2.length cq2, .slice Q3 t.f4.length cq3, .slice Q4 t.f5.length cq4], rfl, ?_⟩
         replace HX := k_ (blk_below HX.out hb)
         replace HZ := k_ (blk_below HZ.out hb)
         replace HR := k_ (blk_below HR.out hb)
         replace HG := k_ (blk_below HG.out hb)
         replace HP := k_ (Apt_below HP.out hb)
         replace HB := k_ (below_step HB.out hb)
         replace LN := k_ (Nat.le_trans LN.out (below_size hb))
         replace HQ := k_ (Apt_below HQ.out hb)
         replace HA := k_ (blk_below HA.out hb)
         have HW1 := k_ (show n1 ≤ w30.heap.size from LN.out)
         have HH := k_ hA; have HEy := k_ hE
         clear hA hE hds hus' hb
         refine hK.out _ _ ⟨HG.out, HA.out, HZ.out⟩ (fun hHeld => ?_)
         clear hK K
         refine norm_ (a' := ?_) ?_ ?_
         rotate_left
         ·show Act.put _ (some 74) _ = _
          simp only [Act.put, sP]
          rfl
         refine one_ (i := 6) (N := some 75) mSubI22 rfl rfl (one_of HT_.out (by kernel_rfl)) (by decide) (fun K hK => ?_)
         refine value_ (w1 := ?_) (v := ?_) (by rfl) rfl ?_ ?_
         rotate_left 2
         ·go_simp
          constructor
          ·rfl
          ·rfl
         refine hK.out _ _ ⟨blk_alloc HG.out _, blk_alloc HA.out _, blk_alloc HZ.out _⟩ (fun hHeld => ?_)
         clear hK K
         refine norm_ (a' := ?_) ?_ ?_
         rotate_left
         ·show Act.put _ (some 75) _ = _
          simp only [Act.put, sP]
          rfl
         refine one_ (i := 7) (N := some 76) mSubI23 rfl rfl (one_of HT_.out (by kernel_rfl)) (by decide) (fun K hK => ?_)
         refine step_append_cells (w0 := w) w.heap.size (by rfl) (.tmp 70) (.tmp 75) 33 35 (.agg #[.int .i64 0, .string ⟨#[]⟩, .int .i64 0, .int .i64 0, .slice none 0 0, .slice none 0 0, .slice none 0 0, .slice none 0 0]) 8 136 rfl Tryd.underlying33 info35 rfl (by decide) (by decide) (.slice Au i cu) i (cs.map HT.val) (List.map HT.val [.lf (.int .i64 t.f0), .lf (.string t.f1), .lf (.int .i64 t.f2), .lf (.int .i64 t.f3.f0), strR (.slice Q1 t.f3.f1.length cq1) t.f3.f1, .row 32 3 t.f3.f2.length (.slice Q2 t.f3.f2.length cq2) us', strR (.slice Q3 t.f4.length cq3) t.f4, .row 35 8 t.f5.length (.slice Q4 t.f5.length cq4) ds]) rfl rfl rfl (OkS_one HH.out.1) (own_weaken (row_cells HQ.out) L_w.out) HB.out (below_size HB.out) (by have := SM.out.p5.1; have := HD.out; omega) ?_
         intro u1 w31 ho1 hb1 hg1 hat1
         obtain ⟨Av, cv, rfl⟩ := own_slice ho1
         have HQ1 := k_ (row_append HQ.out HH.out HM.out HW0.out HW1.out ho1 hg1 hat1)
         replace HX := k_ (blk_grown HX.out hg1 (fun he => D_HQ_gx.out gx (row_own he.symm) rfl))
         replace HZ := k_ (blk_grown HZ.out hg1 (fun he => D_HQ_gy.out gy (row_own he.symm) rfl))
         replace HR := k_ (blk_grown HR.out hg1 (fun he => D_HQ_gr.out gr (row_own he.symm) rfl))
         replace HG := k_ (blk_grown HG.out hg1 (fun he => D_HQ_gg.out gg (row_own he.symm) rfl))
         replace HP := k_ (Apt_grown HP.out hg1 (fun b hb he => by have h1 := L_HP.out b hb; have h2 := (OkS_in _ HQ.out.1 b (row_own he.symm)).1; omega))
         replace HB := k_ (hb1)
         replace LN := k_ (Nat.le_trans LN.out hg1.size)
         replace HA := k_ (blk_grown HA.out hg1 (fun he => D_HQ_ga.out ga (row_own he.symm) rfl))
         clear HQ HH HM HW0 HW1 D_HQ_gx D_HQ_gy D_HQ_gr D_HQ_gg
         have HQ := HQ1
         clear HQ1 ho1 hb1 hg1 hat1
         have D_HQ_gx := k_ (Apt_ge HQ.out L_gx.out)
         have D_HQ_gy := k_ (Apt_ge HQ.out L_gy.out)
         have D_HQ_gr := k_ (Apt_ge HQ.out L_gr.out)
         have D_HQ_gg := k_ (Apt_ge HQ.out L_gg.out)
         refine hK.out _ _ ⟨HG.out, HA.out, HZ.out⟩ (fun hHeld => ?_)
         clear hK K
         refine norm_ (a' := ?_) ?_ ?_
         rotate_left
         ·show Act.put _ (some 76) _ = _
          simp only [Act.put, sP]
          rfl
         refine pure_ (i := 8) (N := some 77) (v := ?_) (a' := ?_) mSubI24 rfl rfl (any_of HT_.out (by kernel_rfl)) (fun _ _ _ h => h) (Or.inl ⟨by rfl, ?_⟩) ?_ ?_
         rotate_left
         ·intro w'
          go_simp
          try with_reducible rfl
         rotate_left
         ·simp only [Act.put, sP]
          rfl
         refine last_ (i := 9) (N := none) mSubI25 rfl rfl (one_of HT_.out (by kernel_rfl)) (by decide) (fun K hK => ?_)
         have r165 := blk8 HG.out
         have z166 := blf8 HG.out
         refine skip_ (w1 := w31.setCells gg 7 [.slice Av (i + 1) cv]) (by rfl) rfl (by go_simp; rfl) ?_
         obtain ⟨w32, hw⟩ : ∃ w_, w_ = w31.setCells gg 7 [.slice Av (i + 1) cv] := ⟨_, rfl⟩
         rw [← hw]
         replace HX := k_ (bfw hw HX.out N_gx_gg.out)
         replace HZ := k_ (bfw hw HZ.out N_gy_gg.out)
         replace HR := k_ (bfw hw HR.out N_gr_gg.out)
         replace HG := k_ (show w32.heap[gg]? = some (.cells #[.int .i64 x.f0, .string fr, .int .i64 x.f2, .int .i64 x.f3.f0, .slice P1 x.f3.f1.length q1, .slice P2 x.f3.f2.length q2, .slice Ao x.f4.length co, .slice Av (i + 1) cv] 35 (0, 0)) from bsw hw HG.out (by simp only [putA, sP, Nat.zero_add, Nat.reduceAdd]))
         replace HP := k_ (apw hw HP.out D_HP_gg.out)
         replace HB := k_ (bew hw HB.out G_gg.out)
         replace LN := k_ (siw hw LN.out)
         replace HQ := k_ (apw hw HQ.out D_HQ_gg.out)
         replace HA := k_ (bfw hw HA.out N_ga_gg.out)
         clear hw
         refine hK.out _ _ ?_
         clear hK K
         refine done_ (done_of HT_.out (by kernel_rfl)) ?_
         clear HT_ HW_
         try go_wp2
         go_roundg (gk - 1)
         case measure => have := HI.out; have := HD.out; omega
         case rel => exact ⟨i + 1, _, _, fr, (by first | rfl | rw [hwi] | simp [hwi]), ⟨by have := HI.out; have := HD.out; omega⟩, ⟨by rw [(gn_at x _ _ i K3.out).2, newN_ren HRB.out]; exact HFR.out⟩, ⟨by rw [take_one (argsF (subF k) x nm z) z35 i (by rw [argsF_len]; exact HD.out), argsF_get _ _ _ _ _ HD.out, ← HY.out, argF_ren _ _ K3.out K4.out HRB.out, ← HFR.out, ← HY2.out, ← HT_E.out]; exact TeES_snoc _ _ _ _ HE.out HEy.out⟩, HQ, HX, HZ, HR, HG, HP, HB, LN⟩
        ·replace kY : hasB (sfv y) nm = false := by simpa using kY
         have K4 := k_ k4
         have k4a : (x.f1.toList == nm.toList) = false := beq_eq_false_iff_ne.mpr (fun e => k4 (str_ext e))
         have k4b : (x.f1.toList != nm.toList) = true := bne_iff_ne.mpr (fun e => k4 (str_ext e))
         clear k4
         have HCF := k_ kF; have HCY := k_ kY
         clear kF kY
         obtain ⟨KY, hKY⟩ := (FreeVars_same y SMY.out (by have := NYz.out; have := nd_pos z; omega)).1
         have HFY := k_ (hKY KY (Nat.le_refl _))
         obtain ⟨KZ, hKZ⟩ := (FreeVars_same z SZ.out (by have := NYz.out; have := nd_pos y; omega)).1
         have HFZ := k_ (hKZ KZ (Nat.le_refl _))
         clear hKY hKZ
         have LFY := k_ (sfv_len y); have LFZ := k_ (sfv_len z)
         obtain ⟨KC, hKC⟩ := contains_ev (sfv z) (by have := NYz.out; have := LFZ.out; omega) x.f1
         have HKC := k_ (hKC KC (Nat.le_refl _))
         rw [HCF.out] at HKC
         clear hKC
         obtain ⟨KD, hKD⟩ := contains_ev (sfv y) (by have := NYz.out; have := LFY.out; omega) nm
         have HKD := k_ (hKD KD (Nat.le_refl _))
         rw [HCY.out] at HKD
         clear hKD
         have HRB := k_ (show renB x nm z = false by rw [renB_at z K3.out K4.out, ← HY.out, HCF.out, HCY.out]; rfl)
         go_wp2_with (first | ((with_reducible refine gate_dst (N := 9) rfl ?_); refine box_event ?hg (N := 9) ?hd (cs := #[.int .i64 0, .string ⟨#[]⟩, .int .i64 0, .int .i64 0, .slice none 0 0, .slice none 0 0, .slice none 0 0, .slice none 0 0]) (t := 35) ?hr ?_; (case hd => rfl); (case hg => rfl); (case hr => first | (go_simp; done) | (go_simp; rfl)); intro ga hg w12 hbox hb; have N_gx_ga := k_ (nwN hg HX.out); have N_ga_gx := k_ (Ne.symm N_gx_ga.out); have N_gy_ga := k_ (nwN hg HZ.out); have N_ga_gy := k_ (Ne.symm N_gy_ga.out); have N_gr_ga := k_ (nwN hg HR.out); have N_ga_gr := k_ (Ne.symm N_gr_ga.out); have N_gg_ga := k_ (nwN hg HG.out); have N_ga_gg := k_ (Ne.symm N_gg_ga.out); have D_HP_ga := k_ (nwD hg HP.out); have D_HQ_ga := k_ (nwD hg HQ.out); have G_ga := k_ (nwG hg HB.out); replace HX := k_ (blk_below HX.out hb); replace HZ := k_ (blk_below HZ.out hb); replace HR := k_ (blk_below HR.out hb); replace HG := k_ (blk_below HG.out hb); replace HP := k_ (Apt_below HP.out hb); replace HB := k_ (below_step HB.out hb); replace LN := k_ (Nat.le_trans LN.out (below_size hb)); replace HQ := k_ (Apt_below HQ.out hb); have HA := k_ hbox; clear hg hbox hb) | ((with_reducible refine gate_store (t := 35) (p := 9) rfl ?_); have r154 := blk8 HA.out; have z155 := blf8 HA.out; refine store_event (t := 35) (p := 9) (v := ?vo_156) (w1 := w12.setCells ga 0 [.int .i64 y.f0, .string y.f1, .int .i64 y.f2, .int .i64 y.f3.f0, .slice B1 y.f3.f1.length e1, .slice B2 y.f3.f2.length e2, .slice B3 y.f4.length e3, .slice B4 y.f5.length e4]) ?hg ?ho ?hn ?hr ?_; (case ho => rfl); (case hg => rfl); (case hn => rfl); (case hr => first | (go_simp; done) | (go_simp; rfl)); intro w13 hw; replace HX := k_ (bfw hw HX.out N_gx_ga.out); replace HZ := k_ (bfw hw HZ.out N_gy_ga.out); replace HR := k_ (bfw hw HR.out N_gr_ga.out); replace HG := k_ (bfw hw HG.out N_gg_ga.out); replace HP := k_ (apw hw HP.out D_HP_ga.out); replace HB := k_ (bew hw HB.out G_ga.out); replace LN := k_ (siw hw LN.out); replace HQ := k_ (apw hw HQ.out D_HQ_ga.out); replace HA := k_ (show w13.heap[ga]? = some (.cells #[.int .i64 y.f0, .string y.f1, .int .i64 y.f2, .int .i64 y.f3.f0, .slice B1 y.f3.f1.length e1, .slice B2 y.f3.f2.length e2, .slice B3 y.f4.length e3, .slice B4 y.f5.length e4] 35 (0, 0)) from bsw hw HA.out (by simp only [putA, sP, Nat.zero_add, Nat.reduceAdd])); clear hw; clear y0 y1 y2 y3 y4 y5 y6 y7) | (go_at_call 27; refine (impl_binds.calls KB ⟨gx, 0, none⟩ x.f0 x.f1 x.f2 x.f3.f0 _ _ x.f3.f1 _ _ x.f3.f2 _ _ x.f4 _ _ x.f5 (bdAt x) _ (Cells_blk HX.out) (Kd.C_below R1.out.1 HB.out) R1.out.2 (Kd.C_below R2.out.1 HB.out) R2.out.2 (Kd.C_below R3.out.1 HB.out) R3.out.2 (Kd.C_below R4.out.1 HB.out) R4.out.2 HKB.out).mono ?_; rintro e w14 ⟨rfl, hd⟩; have hb := Drawn0.below hd; replace HX := k_ (blk_below HX.out hb); replace HZ := k_ (blk_below HZ.out hb); replace HR := k_ (blk_below HR.out hb); replace HG := k_ (blk_below HG.out hb); replace HP := k_ (Apt_below HP.out hb); replace HB := k_ (below_step HB.out hb); replace LN := k_ (Nat.le_trans LN.out (below_size hb)); replace HQ := k_ (Apt_below HQ.out hb); replace HA := k_ (blk_below HA.out hb); clear hb hd; have r157 := blk8 HX.out; have r158 := blk8 HA.out; obtain ⟨n2, hn2⟩ : ∃ n, n = w14.heap.size := ⟨_, rfl⟩; have LN2 := k_ (show n2 ≤ w14.heap.size by rw [hn2]; exact Nat.le_refl _); have L2w := k_ (show w.heap.size ≤ n2 by rw [hn2]; exact below_size HB.out); have N2_gx := k_ (limB hn2 HX.out); have N2_gy := k_ (limB hn2 HZ.out); have N2_gr := k_ (limB hn2 HR.out); have N2_gg := k_ (limB hn2 HG.out); have N2_HP := k_ (limA hn2 HP.out); have N2_HQ := k_ (limA hn2 HQ.out); have N2_ga := k_ (limB hn2 HA.out); clear hn2) | (go_at_call 28; refine (impl_FreeVars.calls KY y.f0 y.f1 y.f2 y.f3.f0 _ _ y.f3.f1 _ _ y.f3.f2 _ _ y.f4 _ _ y.f5 (sfv y) _ (Kd.C_below M1.out.1 HB.out) M1.out.2 (Kd.C_below M2.out.1 HB.out) M2.out.2 (Kd.C_below M3.out.1 HB.out) M3.out.2 (Kd.C_below M4.out.1 HB.out) M4.out.2 HFY.out).mono ?_; have h2_ := k_ (show n2 ≤ w14.heap.size from LN2.out); rintro e w15 ⟨v_, rfl, ho, hb⟩; obtain ⟨AHF, cHF, rfl⟩ := Kd.R_slice ho; have HF1 := k_ (R_from (n := n2) ho h2_.out (below_size HB.out)); replace HX := k_ (blk_below HX.out hb); replace HZ := k_ (blk_below HZ.out hb); replace HR := k_ (blk_below HR.out hb); replace HG := k_ (blk_below HG.out hb); replace HP := k_ (Apt_below HP.out hb); replace HB := k_ (below_step HB.out hb); replace LN := k_ (Nat.le_trans LN.out (below_size hb)); replace HQ := k_ (Apt_below HQ.out hb); replace HA := k_ (blk_below HA.out hb); replace LN2 := k_ (Nat.le_trans LN2.out (below_size hb)); have HF := HF1; clear HF1 ho hb h2_))
         clear k3a k3b k4a k4b
         replace HX := k_ (blk_drew HX.out)
         replace HZ := k_ (blk_drew HZ.out)
         replace HR := k_ (blk_drew HR.out)
         replace HG := k_ (blk_drew HG.out)
         replace HP := k_ (Apt_below HP.out (below_drew1 (Below.refl _ _)))
         replace HB := k_ (below_drew1 HB.out)
         replace LN := k_ (show n1 ≤ w15.drew.heap.size from LN.out)
         replace HQ := k_ (Apt_below HQ.out (below_drew1 (Below.refl _ _)))
         replace HA := k_ (blk_drew HA.out)
         replace LN2 := k_ (show n2 ≤ w15.drew.heap.size from LN2.out)
         replace HF := k_ (Kd.R_below HF.out (below_drew1 (Below.refl _ _)))
         refine start_ (n := 10) (S := fun w' => (w'.heap[gy]? = some (.cells #[.int .i64 z.f0, .string z.f1, .int .i64 z.f2, .int .i64 z.f3.f0, .slice D1 z.f3.f1.length kz1, .slice D2 z.f3.f2.length kz2, .slice D3 z.f4.length kz3, .slice D4 z.f5.length kz4] 35 (0, 0))) ∧ (w'.heap[gx]? = some (.cells #[.int .i64 x.f0, .string x.f1, .int .i64 x.f2, .int .i64 x.f3.f0, .slice A1 x.f3.f1.length c1, .slice A2 x.f3.f2.length c2, .slice A3 x.f4.length c3, .slice (some ad) x.f5.length c4] 35 (0, 0)))) (ds := []) mSubI13 (by kernel_rfl) rfl rfl ⟨HZ.out, HX.out⟩ (fun hHeld => ?_); refine with_tabW tabS.tab9 tabS.bits9 (fun HT_ HW_ => ?_)
         generalize w15.drew = w16 at HX HZ HR HG HP HB LN HQ HA LN2 HF hHeld ⊢
         refine take_ (i := 0) (N := some 43) (v := ?_) (a' := ?_) mSubI14 rfl rfl (take_ofW HT_.out HW_.out (by kernel_rfl)) (fun _ _ _ h => h) (Or.inl ⟨by rfl, ?_⟩) hHeld ?_ ?_
         rotate_left
         ·rintro w' ⟨s0, s1⟩
          have q0 := blk8 s0
          have q1 := blk8 s1
          go_simp
          with_reducible rfl
         rotate_left
         ·simp only [Act.put, sP]
          rfl
         refine pure_ (i := 2) (N := some 45) (v := ?_) (a' := ?_) mSubI15 rfl rfl (any_of HT_.out (by kernel_rfl)) (fun _ _ _ h => h) (Or.inl ⟨by rfl, ?_⟩) ?_ ?_
         rotate_left
         ·intro w'
          go_simp
          try with_reducible rfl
         rotate_left
         ·simp only [Act.put, sP]
          rfl
         refine take_ (i := 3) (N := some 46) (v := ?_) (a' := ?_) mSubI17 rfl rfl (take_ofW HT_.out HW_.out (by kernel_rfl)) (fun _ _ _ h => h) (Or.inl ⟨by rfl, ?_⟩) hHeld ?_ ?_
         rotate_left
         ·rintro w' ⟨s0, s1⟩
          have q0 := blk8 s0
          have q1 := blk8 s1
          go_simp
          with_reducible rfl
         rotate_left
         ·simp only [Act.put, sP]
          rfl
         refine one_ (i := 1) (N := some 44) mSubI19 rfl rfl (one_of HT_.out (by kernel_rfl)) (by decide) (fun K hK => ?_)
         refine goes_ Tryd.func28 (by kernel_rfl) rfl #[.agg #[.int .i64 z.f0, .string z.f1, .int .i64 z.f2, .int .i64 z.f3.f0, .slice D1 z.f3.f1.length kz1, .slice D2 z.f3.f2.length kz2, .slice D3 z.f4.length kz3, .slice D4 z.f5.length kz4]] (by rfl) rfl rfl (by (try simp only [List.map_toArray, List.map_cons, List.map_nil]); first | done | rfl) ?_
         refine (impl_FreeVars.calls KZ z.f0 z.f1 z.f2 z.f3.f0 _ _ z.f3.f1 _ _ z.f3.f2 _ _ z.f4 _ _ z.f5 (sfv z) _ (Kd.C_below Z1.out.1 HB.out) Z1.out.2 (Kd.C_below Z2.out.1 HB.out) Z2.out.2 (Kd.C_below Z3.out.1 HB.out) Z3.out.2 (Kd.C_below Z4.out.1 HB.out) Z4.out.2 HFZ.out).mono ?_
         have h2_ := k_ (show n2 ≤ w16.heap.size from LN2.out)
         rintro e w17 ⟨v_, rfl, ho, hb⟩
         obtain ⟨AHV, cHV, rfl⟩ := Kd.R_slice ho
         refine ⟨_, rfl, ?_⟩
         have HV1 := k_ (R_from (n := n2) ho h2_.out (below_size HB.out))
         replace HX := k_ (blk_below HX.out hb)
         replace HZ := k_ (blk_below HZ.out hb)
         replace HR := k_ (blk_below HR.out hb)
         replace HG := k_ (blk_below HG.out hb)
         replace HP := k_ (Apt_below HP.out hb)
         replace HB := k_ (below_step HB.out hb)
         replace LN := k_ (Nat.le_trans LN.out (below_size hb))
         replace HQ := k_ (Apt_below HQ.out hb)
         replace HA := k_ (blk_below HA.out hb)
         replace LN2 := k_ (Nat.le_trans LN2.out (below_size hb))
         replace HF := k_ (Kd.R_below HF.out hb)
         have HV := HV1
         clear HV1 ho hb h2_
         refine hK.out _ _ ⟨HZ.out, HX.out⟩ (fun hHeld => ?_)
         clear hK K
         refine norm_ (a' := ?_) ?_ ?_
         rotate_left
         ·show Act.put _ (some 44) _ = _
          simp only [Act.put, sP]
          rfl
         refine one_ (i := 4) (N := some 47) mSubI20 rfl rfl (one_of HT_.out (by kernel_rfl)) (by decide) (fun K hK => ?_)
         refine goes_ Tryd.func29 (by kernel_rfl) rfl #[.slice AHV (sfv z).length cHV, .string x.f1] (by rfl) rfl rfl (by (try simp only [List.map_toArray, List.map_cons, List.map_nil]); first | done | rfl) ?_
         refine (slices_Contains_string_string.calls KC _ _ (sfv z) x.f1 true _ (Kd.R_reads' HV.out).2.2 (Kd.R_reads' HV.out).2.1 HKC.out).mono ?_
         rintro e w18 ⟨rfl, hd⟩
         refine ⟨_, rfl, ?_⟩
         have hb := Drawn0.below hd
         replace HX := k_ (blk_below HX.out hb)
         replace HZ := k_ (blk_below HZ.out hb)
         replace HR := k_ (blk_below HR.out hb)
         replace HG := k_ (blk_below HG.out hb)
         replace HP := k_ (Apt_below HP.out hb)
         replace HB := k_ (below_step HB.out hb)
         replace LN := k_ (Nat.le_trans LN.out (below_size hb))
         replace HQ := k_ (Apt_below HQ.out hb)
         replace HA := k_ (blk_below HA.out hb)
         replace LN2 := k_ (Nat.le_trans LN2.out (below_size hb))
         replace HF := k_ (Kd.R_below HF.out hb)
         replace HV := k_ (Kd.R_below HV.out hb)
         clear hb hd
         refine hK.out _ _ ⟨HZ.out, HX.out⟩ (fun hHeld => ?_)
         clear hK K
         refine norm_ (a' := ?_) ?_ ?_
         rotate_left
         ·show Act.put _ (some 47) _ = _
          simp only [Act.put, sP]
          rfl
         refine pure_ (i := 5) (N := some 48) (v := ?_) (a' := ?_) mSubI21 rfl rfl (any_of HT_.out (by kernel_rfl)) (fun _ _ _ h => h) (Or.inl ⟨by rfl, ?_⟩) ?_ ?_
         rotate_left
         ·intro w'
          go_simp
          try with_reducible rfl
         rotate_left
         ·simp only [Act.put, sP]
          rfl
         refine pure_ (i := 6) (N := some 49) (v := ?_) (a' := ?_) mSubI22 rfl rfl (any_of HT_.out (by kernel_rfl)) (fun _ _ _ h => h) (Or.inl ⟨by rfl, ?_⟩) ?_ ?_
         rotate_left
         ·intro w'
          go_simp
          try with_reducible rfl
         rotate_left
         ·simp only [Act.put, sP]
          rfl
         refine pure_ (i := 7) (N := some 50) (v := ?_) (a' := ?_) mSubI23 rfl rfl (any_of HT_.out (by kernel_rfl)) (fun _ _ _ h => h) (Or.inl ⟨by rfl, ?_⟩) ?_ ?_
         rotate_left
         ·intro w'
          go_simp
          try with_reducible rfl
         rotate_left
         ·simp only [Act.put, sP]
          rfl
         refine one_ (i := 8) (N := some 51) mSubI24 rfl rfl (one_of HT_.out (by kernel_rfl)) (by decide) (fun K hK => ?_)
         refine goes_ Tryd.func29 (by kernel_rfl) rfl #[.slice AHF (sfv y).length cHF, .string nm] (by rfl) rfl rfl (by (try simp only [List.map_toArray, List.map_cons, List.map_nil]); first | done | rfl) ?_
         refine (slices_Contains_string_string.calls KD _ _ (sfv y) nm false _ (Kd.R_reads' HF.out).2.2 (Kd.R_reads' HF.out).2.1 HKD.out).mono ?_
         rintro e w19 ⟨rfl, hd⟩
         refine ⟨_, rfl, ?_⟩
         have hb := Drawn0.below hd
         replace HX := k_ (blk_below HX.out hb)
         replace HZ := k_ (blk_below HZ.out hb)
         replace HR := k_ (blk_below HR.out hb)
         replace HG := k_ (blk_below HG.out hb)
         replace HP := k_ (Apt_below HP.out hb)
         replace HB := k_ (below_step HB.out hb)
         replace LN := k_ (Nat.le_trans LN.out (below_size hb))
         replace HQ := k_ (Apt_below HQ.out hb)
         replace HA := k_ (blk_below HA.out hb)
         replace LN2 := k_ (Nat.le_trans LN2.out (below_size hb))
         replace HF := k_ (Kd.R_below HF.out hb)
         replace HV := k_ (Kd.R_below HV.out hb)
         clear hb hd
         refine hK.out _ _ ⟨HZ.out, HX.out⟩ (fun hHeld => ?_)
         clear hK K
         refine norm_ (a' := ?_) ?_ ?_
         rotate_left
         ·show Act.put _ (some 51) _ = _
          simp only [Act.put, sP]
          rfl
         refine pure_ (i := 9) (N := some 52) (v := ?_) (a' := ?_) mSubI25 rfl rfl (any_of HT_.out (by kernel_rfl)) (fun _ _ _ h => h) (Or.inl ⟨by rfl, ?_⟩) ?_ ?_
         rotate_left
         ·intro w'
          go_simp
          try with_reducible rfl
         rotate_left
         ·simp only [Act.put, sP]
          rfl
         refine done_ (done_of HT_.out (by kernel_rfl)) ?_
         clear HT_ HW_
         clear hHeld
         clear HF HV LN2
         try go_wp2
         replace HX := k_ (blk_drew HX.out)
         replace HZ := k_ (blk_drew HZ.out)
         replace HR := k_ (blk_drew HR.out)
         replace HG := k_ (blk_drew HG.out)
         replace HP := k_ (Apt_below HP.out (below_drew1 (Below.refl _ _)))
         replace HB := k_ (below_drew1 HB.out)
         replace LN := k_ (show n1 ≤ w19.drew.heap.size from LN.out)
         replace HQ := k_ (Apt_below HQ.out (below_drew1 (Below.refl _ _)))
         replace HA := k_ (blk_drew HA.out)
         refine start_ (n := 10) (S := fun w' => (w'.heap[gg]? = some (.cells #[.int .i64 x.f0, .string gn, .int .i64 x.f2, .int .i64 x.f3.f0, .slice P1 x.f3.f1.length q1, .slice P2 x.f3.f2.length q2, .slice Ao x.f4.length co, .slice Au i cu] 35 (0, 0))) ∧ (w'.heap[ga]? = some (.cells #[.int .i64 y.f0, .string y.f1, .int .i64 y.f2, .int .i64 y.f3.f0, .slice B1 y.f3.f1.length e1, .slice B2 y.f3.f2.length e2, .slice B3 y.f4.length e3, .slice B4 y.f5.length e4] 35 (0, 0))) ∧ (w'.heap[gy]? = some (.cells #[.int .i64 z.f0, .string z.f1, .int .i64 z.f2, .int .i64 z.f3.f0, .slice D1 z.f3.f1.length kz1, .slice D2 z.f3.f2.length kz2, .slice D3 z.f4.length kz3, .slice D4 z.f5.length kz4] 35 (0, 0)))) (ds := [9]) mSubI13 (by kernel_rfl) rfl rfl ⟨HG.out, HA.out, HZ.out⟩ (fun hHeld => ?_); refine with_tabW tabS.tab13 tabS.bits13 (fun HT_ HW_ => ?_)
         generalize w19.drew = w20 at HX HZ HR HG HP HB LN HQ HA hHeld ⊢
         refine pure_ (i := 0) (N := some 69) (v := ?_) (a' := ?_) mSubI14 rfl rfl (any_of HT_.out (by kernel_rfl)) (fun _ _ _ h => h) (Or.inl ⟨by rfl, ?_⟩) ?_ ?_
         rotate_left
         ·intro w'
          go_simp
          try with_reducible rfl
         rotate_left
         ·simp only [Act.put, sP]
          rfl
         refine pure_ (i := 3) (N := some 72) (v := ?_) (a' := ?_) mSubI16 rfl rfl (any_of HT_.out (by kernel_rfl)) (fun _ _ _ h => h) (Or.inl ⟨by rfl, ?_⟩) ?_ ?_
         rotate_left
         ·intro w'
          go_simp
          try with_reducible rfl
         rotate_left
         ·simp only [Act.put, sP]
          rfl
         refine take_ (i := 1) (N := some 70) (v := ?_) (a' := ?_) mSubI18 rfl rfl (take_ofW HT_.out HW_.out (by kernel_rfl)) (fun _ _ _ h => h) (Or.inl ⟨by rfl, ?_⟩) hHeld ?_ ?_
         rotate_left
         ·rintro w' ⟨s0, s1, s2⟩
          have q0 := blk8 s0
          have q1 := blk8 s1
          have q2 := blk8 s2
          go_simp
          with_reducible rfl
         rotate_left
         ·simp only [Act.put, sP]
          rfl
         refine take_ (i := 2) (N := some 71) (v := ?_) (a' := ?_) mSubI19 rfl rfl (take_ofW HT_.out HW_.out (by kernel_rfl)) (fun _ _ _ h => h) (Or.inl ⟨by rfl, ?_⟩) hHeld ?_ ?_
         rotate_left
         ·rintro w' ⟨s0, s1, s2⟩
          have q0 := blk8 s0
          have q1 := blk8 s1
          have q2 := blk8 s2
          go_simp
          with_reducible rfl
         rotate_left
         ·simp only [Act.put, sP]
          rfl
         refine take_ (i := 4) (N := some 73) (v := ?_) (a' := ?_) mSubI20 rfl rfl (take_ofW HT_.out HW_.out (by kernel_rfl)) (fun _ _ _ h => h) (Or.inl ⟨by rfl, ?_⟩) hHeld ?_ ?_
         rotate_left
         ·rintro w' ⟨s0, s1, s2⟩
          have q0 := blk8 s0
          have q1 := blk8 s1
          have q2 := blk8 s2
          go_simp
          with_reducible rfl
         rotate_left
         ·simp only [Act.put, sP]
          rfl
         refine one_ (i := 5) (N := some 74) mSubI21 rfl rfl (one_of HT_.out (by kernel_rfl)) (by decide) (fun K hK => ?_)
         have HM := k_ (Apt_lt HQ.out)
         have HW0 := k_ (show n1 ≤ w20.heap.size from LN.out)
         refine goes_ Tryd.func7 (by kernel_rfl) rfl #[.agg #[.int .i64 y.f0, .string y.f1, .int .i64 y.f2, .int .i64 y.f3.f0, .slice B1 y.f3.f1.length e1, .slice B2 y.f3.f2.length e2, .slice B3 y.f4.length e3, .slice B4 y.f5.length e4], .string nm, .agg #[.int .i64 z.f0, .string z.f1, .int .i64 z.f2, .int .i64 z.f3.f0, .slice D1 z.f3.f1.length kz1, .slice D2 z.f3.f2.length kz2, .slice D3 z.f4.length kz3, .slice D4 z.f5.length kz4]] (by rfl) rfl rfl (by (try simp only [List.map_toArray, List.map_cons, List.map_nil]); first | done | rfl) ?_
         refine (IH.out y nm z SMY.out SZ.out NYk.out NYz.out B1 e1 B2 e2 B3 e3 B4 e4 D1 kz1 D2 kz2 D3 kz3 D4 kz4 _ ⟨Kd.C_below M1.out.1 HB.out, M1.out.2⟩ ⟨Kd.C_below M2.out.1 HB.out, M2.out.2⟩ ⟨Kd.C_below M3.out.1 HB.out, M3.out.2⟩ ⟨Kd.C_below M4.out.1 HB.out, M4.out.2⟩ ⟨Kd.C_below Z1.out.1 HB.out, Z1.out.2⟩ ⟨Kd.C_below Z2.out.1 HB.out, Z2.out.2⟩ ⟨Kd.C_below Z3.out.1 HB.out, Z3.out.2⟩ ⟨Kd.C_below Z4.out.1 HB.out, Z4.out.2⟩ (Laid_below HL.out HB.out)).mono ?_
         rintro e w21 ⟨hs, rfl, hE, hA, hb⟩
         obtain ⟨t, ht_⟩ : ∃ t_, t_ = subF k y nm z := ⟨_, rfl⟩
         rw [← ht_] at hE
         have HT_E := k_ ht_
         clear ht_
         obtain ⟨Q1, cq1, Q2, cq2, Q3, cq3, Q4, cq4, us', ds, rfl, hus', hds⟩ := TeE_open hE hA
         refine ⟨.agg #[.int .i64 t.f0, .string t.f1, .int .i64 t.f2, .int .i64 t.f3.f0, .slice Q1 t.f3.f1.length cq1, .slice Q2 t.f3.f2.length cq2, .slice Q3 t.f4.length cq3, .slice Q4 t.f5.length cq4], rfl, ?_⟩
         replace HX := k_ (blk_below HX.out hb)
         replace HZ := k_ (blk_below HZ.out hb)
         replace HR := k_ (blk_below HR.out hb)
         replace HG := k_ (blk_below HG.out hb)
         replace HP := k_ (Apt_below HP.out hb)
         replace HB := k_ (below_step HB.out hb)
         replace LN := k_ (Nat.le_trans LN.out (below_size hb))
         replace HQ := k_ (Apt_below HQ.out hb)
         replace HA := k_ (blk_below HA.out hb)
         have HW1 := k_ (show n1 ≤ w21.heap.size from LN.out)
         have HH := k_ hA; have HEy := k_ hE
         clear hA hE hds hus' hb
         refine hK.out _ _ ⟨HG.out, HA.out, HZ.out⟩ (fun hHeld => ?_)
         clear hK K
         refine norm_ (a' := ?_) ?_ ?_
         rotate_left
         ·show Act.put _ (some 74) _ = _
          simp only [Act.put, sP]
          rfl
         refine one_ (i := 6) (N := some 75) mSubI22 rfl rfl (one_of HT_.out (by kernel_rfl)) (by decide) (fun K hK => ?_)
         refine value_ (w1 := ?_) (v := ?_) (by rfl) rfl ?_ ?_
         rotate_left 2
         ·go_simp
          constructor
          ·rfl
          ·rfl
         refine hK.out _ _ ⟨blk_alloc HG.out _, blk_alloc HA.out _, blk_alloc HZ.out _⟩ (fun hHeld => ?_)
         clear hK K
         refine norm_ (a' := ?_) ?_ ?_
         rotate_left
         ·show Act.put _ (some 75) _ = _
          simp only [Act.put, sP]
          rfl
         refine one_ (i := 7) (N := some 76) mSubI23 rfl rfl (one_of HT_.out (by kernel_rfl)) (by decide) (fun K hK => ?_)
         refine step_append_cells (w0 := w) w.heap.size (by rfl) (.tmp 70) (.tmp 75) 33 35 (.agg #[.int .i64 0, .string ⟨#[]⟩, .int .i64 0, .int .i64 0, .slice none 0 0, .slice none 0 0, .slice none 0 0, .slice none 0 0]) 8 136 rfl Tryd.underlying33 info35 rfl (by decide) (by decide) (.slice Au i cu) i (cs.map HT.val) (List.map HT.val [.lf (.int .i64 t.f0), .lf (.string t.f1), .lf (.int .i64 t.f2), .lf (.int .i64 t.f3.f0), strR (.slice Q1 t.f3.f1.length cq1) t.f3.f1, .row 32 3 t.f3.f2.length (.slice Q2 t.f3.f2.length cq2) us', strR (.slice Q3 t.f4.length cq3) t.f4, .row 35 8 t.f5.length (.slice Q4 t.f5.length cq4) ds]) rfl rfl rfl (OkS_one HH.out.1) (own_weaken (row_cells HQ.out) L_w.out) HB.out (below_size HB.out) (by have := SM.out.p5.1; have := HD.out; omega) ?_
         intro u1 w22 ho1 hb1 hg1 hat1
         obtain ⟨Av, cv, rfl⟩ := own_slice ho1
         have HQ1 := k_ (row_append HQ.out HH.out HM.out HW0.out HW1.out ho1 hg1 hat1)
         replace HX := k_ (blk_grown HX.out hg1 (fun he => D_HQ_gx.out gx (row_own he.symm) rfl))
         replace HZ := k_ (blk_grown HZ.out hg1 (fun he => D_HQ_gy.out gy (row_own he.symm) rfl))
         replace HR := k_ (blk_grown HR.out hg1 (fun he => D_HQ_gr.out gr (row_own he.symm) rfl))
         replace HG := k_ (blk_grown HG.out hg1 (fun he => D_HQ_gg.out gg (row_own he.symm) rfl))
         replace HP := k_ (Apt_grown HP.out hg1 (fun b hb he => by have h1 := L_HP.out b hb; have h2 := (OkS_in _ HQ.out.1 b (row_own he.symm)).1; omega))
         replace HB := k_ (hb1)
         replace LN := k_ (Nat.le_trans LN.out hg1.size)
         replace HA := k_ (blk_grown HA.out hg1 (fun he => D_HQ_ga.out ga (row_own he.symm) rfl))
         clear HQ HH HM HW0 HW1 D_HQ_gx D_HQ_gy D_HQ_gr D_HQ_gg
         have HQ := HQ1
         clear HQ1 ho1 hb1 hg1 hat1
         have D_HQ_gx := k_ (Apt_ge HQ.out L_gx.out)
         have D_HQ_gy := k_ (Apt_ge HQ.out L_gy.out)
         have D_HQ_gr := k_ (Apt_ge HQ.out L_gr.out)
         have D_HQ_gg := k_ (Apt_ge HQ.out L_gg.out)
         refine hK.out _ _ ⟨HG.out, HA.out, HZ.out⟩ (fun hHeld => ?_)
         clear hK K
         refine norm_ (a' := ?_) ?_ ?_
         rotate_left
         ·show Act.put _ (some 76) _ = _
          simp only [Act.put, sP]
          rfl
         refine pure_ (i := 8) (N := some 77) (v := ?_) (a' := ?_) mSubI24 rfl rfl (any_of HT_.out (by kernel_rfl)) (fun _ _ _ h => h) (Or.inl ⟨by rfl, ?_⟩) ?_ ?_
         rotate_left
         ·intro w'
          go_simp
          try with_reducible rfl
         rotate_left
         ·simp only [Act.put, sP]
          rfl
         refine last_ (i := 9) (N := none) mSubI25 rfl rfl (one_of HT_.out (by kernel_rfl)) (by decide) (fun K hK => ?_)
         have r159 := blk8 HG.out
         have z160 := blf8 HG.out
         refine skip_ (w1 := w22.setCells gg 7 [.slice Av (i + 1) cv]) (by rfl) rfl (by go_simp; rfl) ?_
         obtain ⟨w23, hw⟩ : ∃ w_, w_ = w22.setCells gg 7 [.slice Av (i + 1) cv] := ⟨_, rfl⟩
         rw [← hw]
         replace HX := k_ (bfw hw HX.out N_gx_gg.out)
         replace HZ := k_ (bfw hw HZ.out N_gy_gg.out)
         replace HR := k_ (bfw hw HR.out N_gr_gg.out)
         replace HG := k_ (show w23.heap[gg]? = some (.cells #[.int .i64 x.f0, .string gn, .int .i64 x.f2, .int .i64 x.f3.f0, .slice P1 x.f3.f1.length q1, .slice P2 x.f3.f2.length q2, .slice Ao x.f4.length co, .slice Av (i + 1) cv] 35 (0, 0)) from bsw hw HG.out (by simp only [putA, sP, Nat.zero_add, Nat.reduceAdd]))
         replace HP := k_ (apw hw HP.out D_HP_gg.out)
         replace HB := k_ (bew hw HB.out G_gg.out)
         replace LN := k_ (siw hw LN.out)
         replace HQ := k_ (apw hw HQ.out D_HQ_gg.out)
         replace HA := k_ (bfw hw HA.out N_ga_gg.out)
         clear hw
         refine hK.out _ _ ?_
         clear hK K
         refine done_ (done_of HT_.out (by kernel_rfl)) ?_
         clear HT_ HW_
         try go_wp2
         go_roundg (gk - 1)
         case measure => have := HI.out; have := HD.out; omega
         case rel => exact ⟨i + 1, _, _, gn, (by first | rfl | rw [hwi] | simp [hwi]), ⟨by have := HI.out; have := HD.out; omega⟩, ⟨by rw [HN.out, (gn_at x _ _ i K3.out).1, (gn_at x _ _ i K3.out).2, newN_no HRB.out]⟩, ⟨by rw [take_one (argsF (subF k) x nm z) z35 i (by rw [argsF_len]; exact HD.out), argsF_get _ _ _ _ _ HD.out, ← HY.out, argF_no _ _ K3.out K4.out HRB.out, ← HT_E.out]; exact TeES_snoc _ _ _ _ HE.out HEy.out⟩, HQ, HX, HZ, HR, HG, HP, HB, LN⟩
       ·replace kF : hasB (sfv z) x.f1 = false := by simpa using kF
        have kY := True.intro
        have K4 := k_ k4
        have k4a : (x.f1.toList == nm.toList) = false := beq_eq_false_iff_ne.mpr (fun e => k4 (str_ext e))
        have k4b : (x.f1.toList != nm.toList) = true := bne_iff_ne.mpr (fun e => k4 (str_ext e))
        clear k4
        have HCF := k_ kF; have HCY := k_ kY
        clear kF kY
        obtain ⟨KY, hKY⟩ := (FreeVars_same y SMY.out (by have := NYz.out; have := nd_pos z; omega)).1
        have HFY := k_ (hKY KY (Nat.le_refl _))
        obtain ⟨KZ, hKZ⟩ := (FreeVars_same z SZ.out (by have := NYz.out; have := nd_pos y; omega)).1
        have HFZ := k_ (hKZ KZ (Nat.le_refl _))
        clear hKY hKZ
        have LFY := k_ (sfv_len y); have LFZ := k_ (sfv_len z)
        obtain ⟨KC, hKC⟩ := contains_ev (sfv z) (by have := NYz.out; have := LFZ.out; omega) x.f1
        have HKC := k_ (hKC KC (Nat.le_refl _))
        rw [HCF.out] at HKC
        clear hKC
        have HRB := k_ (show renB x nm z = false by rw [renB_at z K3.out K4.out, ← HY.out, HCF.out]; rfl)
        go_wp2_with (first | ((with_reducible refine gate_dst (N := 9) rfl ?_); refine box_event ?hg (N := 9) ?hd (cs := #[.int .i64 0, .string ⟨#[]⟩, .int .i64 0, .int .i64 0, .slice none 0 0, .slice none 0 0, .slice none 0 0, .slice none 0 0]) (t := 35) ?hr ?_; (case hd => rfl); (case hg => rfl); (case hr => first | (go_simp; done) | (go_simp; rfl)); intro ga hg w12 hbox hb; have N_gx_ga := k_ (nwN hg HX.out); have N_ga_gx := k_ (Ne.symm N_gx_ga.out); have N_gy_ga := k_ (nwN hg HZ.out); have N_ga_gy := k_ (Ne.symm N_gy_ga.out); have N_gr_ga := k_ (nwN hg HR.out); have N_ga_gr := k_ (Ne.symm N_gr_ga.out); have N_gg_ga := k_ (nwN hg HG.out); have N_ga_gg := k_ (Ne.symm N_gg_ga.out); have D_HP_ga := k_ (nwD hg HP.out); have D_HQ_ga := k_ (nwD hg HQ.out); have G_ga := k_ (nwG hg HB.out); replace HX := k_ (blk_below HX.out hb); replace HZ := k_ (blk_below HZ.out hb); replace HR := k_ (blk_below HR.out hb); replace HG := k_ (blk_below HG.out hb); replace HP := k_ (Apt_below HP.out hb); replace HB := k_ (below_step HB.out hb); replace LN := k_ (Nat.le_trans LN.out (below_size hb)); replace HQ := k_ (Apt_below HQ.out hb); have HA := k_ hbox; clear hg hbox hb) | ((with_reducible refine gate_store (t := 35) (p := 9) rfl ?_); have r154 := blk8 HA.out; have z155 := blf8 HA.out; refine store_event (t := 35) (p := 9) (v := ?vo_156) (w1 := w12.setCells ga 0 [.int .i64 y.f0, .string y.f1, .int .i64 y.f2, .int .i64 y.f3.f0, .slice B1 y.f3.f1.length e1, .slice B2 y.f3.f2.length e2, .slice B3 y.f4.length e3, .slice B4 y.f5.length e4]) ?hg ?ho ?hn ?hr ?_; (case ho => rfl); (case hg => rfl); (case hn => rfl); (case hr => first | (go_simp; done) | (go_simp; rfl)); intro w13 hw; replace HX := k_ (bfw hw HX.out N_gx_ga.out); replace HZ := k_ (bfw hw HZ.out N_gy_ga.out); replace HR := k_ (bfw hw HR.out N_gr_ga.out); replace HG := k_ (bfw hw HG.out N_gg_ga.out); replace HP := k_ (apw hw HP.out D_HP_ga.out); replace HB := k_ (bew hw HB.out G_ga.out); replace LN := k_ (siw hw LN.out); replace HQ := k_ (apw hw HQ.out D_HQ_ga.out); replace HA := k_ (show w13.heap[ga]? = some (.cells #[.int .i64 y.f0, .string y.f1, .int .i64 y.f2, .int .i64 y.f3.f0, .slice B1 y.f3.f1.length e1, .slice B2 y.f3.f2.length e2, .slice B3 y.f4.length e3, .slice B4 y.f5.length e4] 35 (0, 0)) from bsw hw HA.out (by simp only [putA, sP, Nat.zero_add, Nat.reduceAdd])); clear hw; clear y0 y1 y2 y3 y4 y5 y6 y7) | (go_at_call 27; refine (impl_binds.calls KB ⟨gx, 0, none⟩ x.f0 x.f1 x.f2 x.f3.f0 _ _ x.f3.f1 _ _ x.f3.f2 _ _ x.f4 _ _ x.f5 (bdAt x) _ (Cells_blk HX.out) (Kd.C_below R1.out.1 HB.out) R1.out.2 (Kd.C_below R2.out.1 HB.out) R2.out.2 (Kd.C_below R3.out.1 HB.out) R3.out.2 (Kd.C_below R4.out.1 HB.out) R4.out.2 HKB.out).mono ?_; rintro e w14 ⟨rfl, hd⟩; have hb := Drawn0.below hd; replace HX := k_ (blk_below HX.out hb); replace HZ := k_ (blk_below HZ.out hb); replace HR := k_ (blk_below HR.out hb); replace HG := k_ (blk_below HG.out hb); replace HP := k_ (Apt_below HP.out hb); replace HB := k_ (below_step HB.out hb); replace LN := k_ (Nat.le_trans LN.out (below_size hb)); replace HQ := k_ (Apt_below HQ.out hb); replace HA := k_ (blk_below HA.out hb); clear hb hd; have r157 := blk8 HX.out; have r158 := blk8 HA.out; obtain ⟨n2, hn2⟩ : ∃ n, n = w14.heap.size := ⟨_, rfl⟩; have LN2 := k_ (show n2 ≤ w14.heap.size by rw [hn2]; exact Nat.le_refl _); have L2w := k_ (show w.heap.size ≤ n2 by rw [hn2]; exact below_size HB.out); have N2_gx := k_ (limB hn2 HX.out); have N2_gy := k_ (limB hn2 HZ.out); have N2_gr := k_ (limB hn2 HR.out); have N2_gg := k_ (limB hn2 HG.out); have N2_HP := k_ (limA hn2 HP.out); have N2_HQ := k_ (limA hn2 HQ.out); have N2_ga := k_ (limB hn2 HA.out); clear hn2) | (go_at_call 28; refine (impl_FreeVars.calls KY y.f0 y.f1 y.f2 y.f3.f0 _ _ y.f3.f1 _ _ y.f3.f2 _ _ y.f4 _ _ y.f5 (sfv y) _ (Kd.C_below M1.out.1 HB.out) M1.out.2 (Kd.C_below M2.out.1 HB.out) M2.out.2 (Kd.C_below M3.out.1 HB.out) M3.out.2 (Kd.C_below M4.out.1 HB.out) M4.out.2 HFY.out).mono ?_; have h2_ := k_ (show n2 ≤ w14.heap.size from LN2.out); rintro e w15 ⟨v_, rfl, ho, hb⟩; obtain ⟨AHF, cHF, rfl⟩ := Kd.R_slice ho; have HF1 := k_ (R_from (n := n2) ho h2_.out (below_size HB.out)); replace HX := k_ (blk_below HX.out hb); replace HZ := k_ (blk_below HZ.out hb); replace HR := k_ (blk_below HR.out hb); replace HG := k_ (blk_below HG.out hb); replace HP := k_ (Apt_below HP.out hb); replace HB := k_ (below_step HB.out hb); replace LN := k_ (Nat.le_trans LN.out (below_size hb)); replace HQ := k_ (Apt_below HQ.out hb); replace HA := k_ (blk_below HA.out hb); replace LN2 := k_ (Nat.le_trans LN2.out (below_size hb)); have HF := HF1; clear HF1 ho hb h2_))
        clear k3a k3b k4a k4b
        replace HX := k_ (blk_drew HX.out)
        replace HZ := k_ (blk_drew HZ.out)
        replace HR := k_ (blk_drew HR.out)
        replace HG := k_ (blk_drew HG.out)
        replace HP := k_ (Apt_below HP.out (below_drew1 (Below.refl _ _)))
        replace HB := k_ (below_drew1 HB.out)
        replace LN := k_ (show n1 ≤ w15.drew.heap.size from LN.out)
        replace HQ := k_ (Apt_below HQ.out (below_drew1 (Below.refl _ _)))
        replace HA := k_ (blk_drew HA.out)
        replace LN2 := k_ (show n2 ≤ w15.drew.heap.size from LN2.out)
        replace HF := k_ (Kd.R_below HF.out (below_drew1 (Below.refl _ _)))
        refine start_ (n := 10) (S := fun w' => (w'.heap[gy]? = some (.cells #[.int .i64 z.f0, .string z.f1, .int .i64 z.f2, .int .i64 z.f3.f0, .slice D1 z.f3.f1.length kz1, .slice D2 z.f3.f2.length kz2, .slice D3 z.f4.length kz3, .slice D4 z.f5.length kz4] 35 (0, 0))) ∧ (w'.heap[gx]? = some (.cells #[.int .i64 x.f0, .string x.f1, .int .i64 x.f2, .int .i64 x.f3.f0, .slice A1 x.f3.f1.length c1, .slice A2 x.f3.f2.length c2, .slice A3 x.f4.length c3, .slice (some ad) x.f5.length c4] 35 (0, 0)))) (ds := []) mSubI13 (by kernel_rfl) rfl rfl ⟨HZ.out, HX.out⟩ (fun hHeld => ?_); refine with_tabW tabS.tab9 tabS.bits9 (fun HT_ HW_ => ?_)
        generalize w15.drew = w16 at HX HZ HR HG HP HB LN HQ HA LN2 HF hHeld ⊢
        refine take_ (i := 0) (N := some 43) (v := ?_) (a' := ?_) mSubI14 rfl rfl (take_ofW HT_.out HW_.out (by kernel_rfl)) (fun _ _ _ h => h) (Or.inl ⟨by rfl, ?_⟩) hHeld ?_ ?_
        rotate_left
        ·rintro w' ⟨s0, s1⟩
         have q0 := blk8 s0
         have q1 := blk8 s1
         go_simp
         with_reducible rfl
        rotate_left
        ·simp only [Act.put, sP]
         rfl
        refine pure_ (i := 2) (N := some 45) (v := ?_) (a' := ?_) mSubI15 rfl rfl (any_of HT_.out (by kernel_rfl)) (fun _ _ _ h => h) (Or.inl ⟨by rfl, ?_⟩) ?_ ?_
        rotate_left
        ·intro w'
         go_simp
         try with_reducible rfl
        rotate_left
        ·simp only [Act.put, sP]
         rfl
        refine take_ (i := 3) (N := some 46) (v := ?_) (a' := ?_) mSubI17 rfl rfl (take_ofW HT_.out HW_.out (by kernel_rfl)) (fun _ _ _ h => h) (Or.inl ⟨by rfl, ?_⟩) hHeld ?_ ?_
        rotate_left
        ·rintro w' ⟨s0, s1⟩
         have q0 := blk8 s0
         have q1 := blk8 s1
         go_simp
         with_reducible rfl
        rotate_left
        ·simp only [Act.put, sP]
         rfl
        refine one_ (i := 1) (N := some 44) mSubI19 rfl rfl (one_of HT_.out (by kernel_rfl)) (by decide) (fun K hK => ?_)
        refine goes_ Tryd.func28 (by kernel_rfl) rfl #[.agg #[.int .i64 z.f0, .string z.f1, .int .i64 z.f2, .int .i64 z.f3.f0, .slice D1 z.f3.f1.length kz1, .slice D2 z.f3.f2.length kz2, .slice D3 z.f4.length kz3, .slice D4 z.f5.length kz4]] (by rfl) rfl rfl (by (try simp only [List.map_toArray, List.map_cons, List.map_nil]); first | done | rfl) ?_
        refine (impl_FreeVars.calls KZ z.f0 z.f1 z.f2 z.f3.f0 _ _ z.f3.f1 _ _ z.f3.f2 _ _ z.f4 _ _ z.f5 (sfv z) _ (Kd.C_below Z1.out.1 HB.out) Z1.out.2 (Kd.C_below Z2.out.1 HB.out) Z2.out.2 (Kd.C_below Z3.out.1 HB.out) Z3.out.2 (Kd.C_below Z4.out.1 HB.out) Z4.out.2 HFZ.out).mono ?_
        have h2_ := k_ (show n2 ≤ w16.heap.size from LN2.out)
        rintro e w17 ⟨v_, rfl, ho, hb⟩
        obtain ⟨AHV, cHV, rfl⟩ := Kd.R_slice ho
        refine ⟨_, rfl, ?_⟩
        have HV1 := k_ (R_from (n := n2) ho h2_.out (below_size HB.out))
        replace HX := k_ (blk_below HX.out hb)
        replace HZ := k_ (blk_below HZ.out hb)
        replace HR := k_ (blk_below HR.out hb)
        replace HG := k_ (blk_below HG.out hb)
        replace HP := k_ (Apt_below HP.out hb)
        replace HB := k_ (below_step HB.out hb)
        replace LN := k_ (Nat.le_trans LN.out (below_size hb))
        replace HQ := k_ (Apt_below HQ.out hb)
        replace HA := k_ (blk_below HA.out hb)
        replace LN2 := k_ (Nat.le_trans LN2.out (below_size hb))
        replace HF := k_ (Kd.R_below HF.out hb)
        have HV := HV1
        clear HV1 ho hb h2_
        refine hK.out _ _ ⟨HZ.out, HX.out⟩ (fun hHeld => ?_)
        clear hK K
        refine norm_ (a' := ?_) ?_ ?_
        rotate_left
        ·show Act.put _ (some 44) _ = _
         simp only [Act.put, sP]
         rfl
        refine one_ (i := 4) (N := some 47) mSubI20 rfl rfl (one_of HT_.out (by kernel_rfl)) (by decide) (fun K hK => ?_)
        refine goes_ Tryd.func29 (by kernel_rfl) rfl #[.slice AHV (sfv z).length cHV, .string x.f1] (by rfl) rfl rfl (by (try simp only [List.map_toArray, List.map_cons, List.map_nil]); first | done | rfl) ?_
        refine (slices_Contains_string_string.calls KC _ _ (sfv z) x.f1 false _ (Kd.R_reads' HV.out).2.2 (Kd.R_reads' HV.out).2.1 HKC.out).mono ?_
        rintro e w18 ⟨rfl, hd⟩
        refine ⟨_, rfl, ?_⟩
        have hb := Drawn0.below hd
        replace HX := k_ (blk_below HX.out hb)
        replace HZ := k_ (blk_below HZ.out hb)
        replace HR := k_ (blk_below HR.out hb)
        replace HG := k_ (blk_below HG.out hb)
        replace HP := k_ (Apt_below HP.out hb)
        replace HB := k_ (below_step HB.out hb)
        replace LN := k_ (Nat.le_trans LN.out (below_size hb))
        replace HQ := k_ (Apt_below HQ.out hb)
        replace HA := k_ (blk_below HA.out hb)
        replace LN2 := k_ (Nat.le_trans LN2.out (below_size hb))
        replace HF := k_ (Kd.R_below HF.out hb)
        replace HV := k_ (Kd.R_below HV.out hb)
        clear hb hd
        refine hK.out _ _ ⟨HZ.out, HX.out⟩ (fun hHeld => ?_)
        clear hK K
        refine norm_ (a' := ?_) ?_ ?_
        rotate_left
        ·show Act.put _ (some 47) _ = _
         simp only [Act.put, sP]
         rfl
        refine pure_ (i := 5) (N := some 48) (v := ?_) (a' := ?_) mSubI21 rfl rfl (any_of HT_.out (by kernel_rfl)) (fun _ _ _ h => h) (Or.inl ⟨by rfl, ?_⟩) ?_ ?_
        rotate_left
        ·intro w'
         go_simp
         try with_reducible rfl
        rotate_left
        ·simp only [Act.put, sP]
         rfl
        refine pure_ (i := 6) (N := some 49) (v := undef) (a' := ?_) mSubI22 rfl rfl (any_of HT_.out (by kernel_rfl)) (fun _ _ _ h => h) (Or.inr ⟨by rfl, rfl⟩) ?_ ?_
        rotate_left
        ·simp only [Act.put, sP]
         rfl
        refine pure_ (i := 7) (N := some 50) (v := undef) (a' := ?_) mSubI23 rfl rfl (any_of HT_.out (by kernel_rfl)) (fun _ _ _ h => h) (Or.inr ⟨by rfl, rfl⟩) ?_ ?_
        rotate_left
        ·simp only [Act.put, sP]
         rfl
        refine one_ (i := 8) (N := some 51) mSubI24 rfl rfl (one_of HT_.out (by kernel_rfl)) (by decide) (fun K hK => ?_)
        refine off_ (by rfl) ?_
        refine hK.out _ _ ⟨HZ.out, HX.out⟩ (fun hHeld => ?_)
        clear hK K
        refine norm_ (a' := ?_) ?_ ?_
        rotate_left
        ·show Act.put _ (some 51) _ = _
         simp only [Act.put, sP]
         rfl
        refine pure_ (i := 9) (N := some 52) (v := ?_) (a' := ?_) mSubI25 rfl rfl (any_of HT_.out (by kernel_rfl)) (fun _ _ _ h => h) (Or.inl ⟨by rfl, ?_⟩) ?_ ?_
        rotate_left
        ·intro w'
         go_simp
         try with_reducible rfl
        rotate_left
        ·simp only [Act.put, sP]
         rfl
        refine done_ (done_of HT_.out (by kernel_rfl)) ?_
        clear HT_ HW_
        clear hHeld
        clear HF HV LN2
        try go_wp2
        replace HX := k_ (blk_drew HX.out)
        replace HZ := k_ (blk_drew HZ.out)
        replace HR := k_ (blk_drew HR.out)
        replace HG := k_ (blk_drew HG.out)
        replace HP := k_ (Apt_below HP.out (below_drew1 (Below.refl _ _)))
        replace HB := k_ (below_drew1 HB.out)
        replace LN := k_ (show n1 ≤ w18.drew.heap.size from LN.out)
        replace HQ := k_ (Apt_below HQ.out (below_drew1 (Below.refl _ _)))
        replace HA := k_ (blk_drew HA.out)
        refine start_ (n := 10) (S := fun w' => (w'.heap[gg]? = some (.cells #[.int .i64 x.f0, .string gn, .int .i64 x.f2, .int .i64 x.f3.f0, .slice P1 x.f3.f1.length q1, .slice P2 x.f3.f2.length q2, .slice Ao x.f4.length co, .slice Au i cu] 35 (0, 0))) ∧ (w'.heap[ga]? = some (.cells #[.int .i64 y.f0, .string y.f1, .int .i64 y.f2, .int .i64 y.f3.f0, .slice B1 y.f3.f1.length e1, .slice B2 y.f3.f2.length e2, .slice B3 y.f4.length e3, .slice B4 y.f5.length e4] 35 (0, 0))) ∧ (w'.heap[gy]? = some (.cells #[.int .i64 z.f0, .string z.f1, .int .i64 z.f2, .int .i64 z.f3.f0, .slice D1 z.f3.f1.length kz1, .slice D2 z.f3.f2.length kz2, .slice D3 z.f4.length kz3, .slice D4 z.f5.length kz4] 35 (0, 0)))) (ds := [9]) mSubI13 (by kernel_rfl) rfl rfl ⟨HG.out, HA.out, HZ.out⟩ (fun hHeld => ?_); refine with_tabW tabS.tab13 tabS.bits13 (fun HT_ HW_ => ?_)
        generalize w18.drew = w20 at HX HZ HR HG HP HB LN HQ HA hHeld ⊢
        refine pure_ (i := 0) (N := some 69) (v := ?_) (a' := ?_) mSubI14 rfl rfl (any_of HT_.out (by kernel_rfl)) (fun _ _ _ h => h) (Or.inl ⟨by rfl, ?_⟩) ?_ ?_
        rotate_left
        ·intro w'
         go_simp
         try with_reducible rfl
        rotate_left
        ·simp only [Act.put, sP]
         rfl
        refine pure_ (i := 3) (N := some 72) (v := ?_) (a' := ?_) mSubI16 rfl rfl (any_of HT_.out (by kernel_rfl)) (fun _ _ _ h => h) (Or.inl ⟨by rfl, ?_⟩) ?_ ?_
        rotate_left
        ·intro w'
         go_simp
         try with_reducible rfl
        rotate_left
        ·simp only [Act.put, sP]
         rfl
        refine take_ (i := 1) (N := some 70) (v := ?_) (a' := ?_) mSubI18 rfl rfl (take_ofW HT_.out HW_.out (by kernel_rfl)) (fun _ _ _ h => h) (Or.inl ⟨by rfl, ?_⟩) hHeld ?_ ?_
        rotate_left
        ·rintro w' ⟨s0, s1, s2⟩
         have q0 := blk8 s0
         have q1 := blk8 s1
         have q2 := blk8 s2
         go_simp
         with_reducible rfl
        rotate_left
        ·simp only [Act.put, sP]
         rfl
        refine take_ (i := 2) (N := some 71) (v := ?_) (a' := ?_) mSubI19 rfl rfl (take_ofW HT_.out HW_.out (by kernel_rfl)) (fun _ _ _ h => h) (Or.inl ⟨by rfl, ?_⟩) hHeld ?_ ?_
        rotate_left
        ·rintro w' ⟨s0, s1, s2⟩
         have q0 := blk8 s0
         have q1 := blk8 s1
         have q2 := blk8 s2
         go_simp
         with_reducible rfl
        rotate_left
        ·simp only [Act.put, sP]
         rfl
        refine take_ (i := 4) (N := some 73) (v := ?_) (a' := ?_) mSubI20 rfl rfl (take_ofW HT_.out HW_.out (by kernel_rfl)) (fun _ _ _ h => h) (Or.inl ⟨by rfl, ?_⟩) hHeld ?_ ?_
        rotate_left
        ·rintro w' ⟨s0, s1, s2⟩
         have q0 := blk8 s0
         have q1 := blk8 s1
         have q2 := blk8 s2
         go_simp
         with_reducible rfl
        rotate_left
        ·simp only [Act.put, sP]
         rfl
        refine one_ (i := 5) (N := some 74) mSubI21 rfl rfl (one_of HT_.out (by kernel_rfl)) (by decide) (fun K hK => ?_)
        have HM := k_ (Apt_lt HQ.out)
        have HW0 := k_ (show n1 ≤ w20.heap.size from LN.out)
        refine goes_ Tryd.func7 (by kernel_rfl) rfl #[.agg #[.int .i64 y.f0, .string y.f1, .int .i64 y.f2, .int .i64 y.f3.f0, .slice B1 y.f3.f1.length e1, .slice B2 y.f3.f2.length e2, .slice B3 y.f4.length e3, .slice B4 y.f5.length e4], .string nm, .agg #[.int .i64 z.f0, .string z.f1, .int .i64 z.f2, .int .i64 z.f3.f0, .slice D1 z.f3.f1.length kz1, .slice D2 z.f3.f2.length kz2, .slice D3 z.f4.length kz3, .slice D4 z.f5.length kz4]] (by rfl) rfl rfl (by (try simp only [List.map_toArray, List.map_cons, List.map_nil]); first | done | rfl) ?_
        refine (IH.out y nm z SMY.out SZ.out NYk.out NYz.out B1 e1 B2 e2 B3 e3 B4 e4 D1 kz1 D2 kz2 D3 kz3 D4 kz4 _ ⟨Kd.C_below M1.out.1 HB.out, M1.out.2⟩ ⟨Kd.C_below M2.out.1 HB.out, M2.out.2⟩ ⟨Kd.C_below M3.out.1 HB.out, M3.out.2⟩ ⟨Kd.C_below M4.out.1 HB.out, M4.out.2⟩ ⟨Kd.C_below Z1.out.1 HB.out, Z1.out.2⟩ ⟨Kd.C_below Z2.out.1 HB.out, Z2.out.2⟩ ⟨Kd.C_below Z3.out.1 HB.out, Z3.out.2⟩ ⟨Kd.C_below Z4.out.1 HB.out, Z4.out.2⟩ (Laid_below HL.out HB.out)).mono ?_
        rintro e w21 ⟨hs, rfl, hE, hA, hb⟩
        obtain ⟨t, ht_⟩ : ∃ t_, t_ = subF k y nm z := ⟨_, rfl⟩
        rw [← ht_] at hE
        have HT_E := k_ ht_
        clear ht_
        obtain ⟨Q1, cq1, Q2, cq2, Q3, cq3, Q4, cq4, us', ds, rfl, hus', hds⟩ := TeE_open hE hA
        refine ⟨.agg #[.int .i64 t.f0, .string t.f1, .int .i64 t.f2, .int .i64 t.f3.f0, .slice Q1 t.f3.f1.length cq1, .slice Q2 t.f3.f2.length cq2, .slice Q3 t.f4.length cq3, .slice Q4 t.f5.length cq4], rfl, ?_⟩
        replace HX := k_ (blk_below HX.out hb)
        replace HZ := k_ (blk_below HZ.out hb)
        replace HR := k_ (blk_below HR.out hb)
        replace HG := k_ (blk_below HG.out hb)
        replace HP := k_ (Apt_below HP.out hb)
        replace HB := k_ (below_step HB.out hb)
        replace LN := k_ (Nat.le_trans LN.out (below_size hb))
        replace HQ := k_ (Apt_below HQ.out hb)
        replace HA := k_ (blk_below HA.out hb)
        have HW1 := k_ (show n1 ≤ w21.heap.size from LN.out)
        have HH := k_ hA; have HEy := k_ hE
        clear hA hE hds hus' hb
        refine hK.out _ _ ⟨HG.out, HA.out, HZ.out⟩ (fun hHeld => ?_)
        clear hK K
        refine norm_ (a' := ?_) ?_ ?_
        rotate_left
        ·show Act.put _ (some 74) _ = _
         simp only [Act.put, sP]
         rfl
        refine one_ (i := 6) (N := some 75) mSubI22 rfl rfl (one_of HT_.out (by kernel_rfl)) (by decide) (fun K hK => ?_)
        refine value_ (w1 := ?_) (v := ?_) (by rfl) rfl ?_ ?_
        rotate_left 2
        ·go_simp
         constructor
         ·rfl
         ·rfl
        refine hK.out _ _ ⟨blk_alloc HG.out _, blk_alloc HA.out _, blk_alloc HZ.out _⟩ (fun hHeld => ?_)
        clear hK K
        refine norm_ (a' := ?_) ?_ ?_
        rotate_left
        ·show Act.put _ (some 75) _ = _
         simp only [Act.put, sP]
         rfl
        refine one_ (i := 7) (N := some 76) mSubI23 rfl rfl (one_of HT_.out (by kernel_rfl)) (by decide) (fun K hK => ?_)
        refine step_append_cells (w0 := w) w.heap.size (by rfl) (.tmp 70) (.tmp 75) 33 35 (.agg #[.int .i64 0, .string ⟨#[]⟩, .int .i64 0, .int .i64 0, .slice none 0 0, .slice none 0 0, .slice none 0 0, .slice none 0 0]) 8 136 rfl Tryd.underlying33 info35 rfl (by decide) (by decide) (.slice Au i cu) i (cs.map HT.val) (List.map HT.val [.lf (.int .i64 t.f0), .lf (.string t.f1), .lf (.int .i64 t.f2), .lf (.int .i64 t.f3.f0), strR (.slice Q1 t.f3.f1.length cq1) t.f3.f1, .row 32 3 t.f3.f2.length (.slice Q2 t.f3.f2.length cq2) us', strR (.slice Q3 t.f4.length cq3) t.f4, .row 35 8 t.f5.length (.slice Q4 t.f5.length cq4) ds]) rfl rfl rfl (OkS_one HH.out.1) (own_weaken (row_cells HQ.out) L_w.out) HB.out (below_size HB.out) (by have := SM.out.p5.1; have := HD.out; omega) ?_
        intro u1 w22 ho1 hb1 hg1 hat1
        obtain ⟨Av, cv, rfl⟩ := own_slice ho1
        have HQ1 := k_ (row_append HQ.out HH.out HM.out HW0.out HW1.out ho1 hg1 hat1)
        replace HX := k_ (blk_grown HX.out hg1 (fun he => D_HQ_gx.out gx (row_own he.symm) rfl))
        replace HZ := k_ (blk_grown HZ.out hg1 (fun he => D_HQ_gy.out gy (row_own he.symm) rfl))
        replace HR := k_ (blk_grown HR.out hg1 (fun he => D_HQ_gr.out gr (row_own he.symm) rfl))
        replace HG := k_ (blk_grown HG.out hg1 (fun he => D_HQ_gg.out gg (row_own he.symm) rfl))
        replace HP := k_ (Apt_grown HP.out hg1 (fun b hb he => by have h1 := L_HP.out b hb; have h2 := (OkS_in _ HQ.out.1 b (row_own he.symm)).1; omega))
        replace HB := k_ (hb1)
        replace LN := k_ (Nat.le_trans LN.out hg1.size)
        replace HA := k_ (blk_grown HA.out hg1 (fun he => D_HQ_ga.out ga (row_own he.symm) rfl))
        clear HQ HH HM HW0 HW1 D_HQ_gx D_HQ_gy D_HQ_gr D_HQ_gg
        have HQ := HQ1
        clear HQ1 ho1 hb1 hg1 hat1
        have D_HQ_gx := k_ (Apt_ge HQ.out L_gx.out)
        have D_HQ_gy := k_ (Apt_ge HQ.out L_gy.out)
        have D_HQ_gr := k_ (Apt_ge HQ.out L_gr.out)
        have D_HQ_gg := k_ (Apt_ge HQ.out L_gg.out)
        refine hK.out _ _ ⟨HG.out, HA.out, HZ.out⟩ (fun hHeld => ?_)
        clear hK K
        refine norm_ (a' := ?_) ?_ ?_
        rotate_left
        ·show Act.put _ (some 76) _ = _
         simp only [Act.put, sP]
         rfl
        refine pure_ (i := 8) (N := some 77) (v := ?_) (a' := ?_) mSubI24 rfl rfl (any_of HT_.out (by kernel_rfl)) (fun _ _ _ h => h) (Or.inl ⟨by rfl, ?_⟩) ?_ ?_
        rotate_left
        ·intro w'
         go_simp
         try with_reducible rfl
        rotate_left
        ·simp only [Act.put, sP]
         rfl
        refine last_ (i := 9) (N := none) mSubI25 rfl rfl (one_of HT_.out (by kernel_rfl)) (by decide) (fun K hK => ?_)
        have r159 := blk8 HG.out
        have z160 := blf8 HG.out
        refine skip_ (w1 := w22.setCells gg 7 [.slice Av (i + 1) cv]) (by rfl) rfl (by go_simp; rfl) ?_
        obtain ⟨w23, hw⟩ : ∃ w_, w_ = w22.setCells gg 7 [.slice Av (i + 1) cv] := ⟨_, rfl⟩
        rw [← hw]
        replace HX := k_ (bfw hw HX.out N_gx_gg.out)
        replace HZ := k_ (bfw hw HZ.out N_gy_gg.out)
        replace HR := k_ (bfw hw HR.out N_gr_gg.out)
        replace HG := k_ (show w23.heap[gg]? = some (.cells #[.int .i64 x.f0, .string gn, .int .i64 x.f2, .int .i64 x.f3.f0, .slice P1 x.f3.f1.length q1, .slice P2 x.f3.f2.length q2, .slice Ao x.f4.length co, .slice Av (i + 1) cv] 35 (0, 0)) from bsw hw HG.out (by simp only [putA, sP, Nat.zero_add, Nat.reduceAdd]))
        replace HP := k_ (apw hw HP.out D_HP_gg.out)
        replace HB := k_ (bew hw HB.out G_gg.out)
        replace LN := k_ (siw hw LN.out)
        replace HQ := k_ (apw hw HQ.out D_HQ_gg.out)
        replace HA := k_ (bfw hw HA.out N_ga_gg.out)
        clear hw
        refine hK.out _ _ ?_
        clear hK K
        refine done_ (done_of HT_.out (by kernel_rfl)) ?_
        clear HT_ HW_
        try go_wp2
        go_roundg (gk - 1)
        case measure => have := HI.out; have := HD.out; omega
        case rel => exact ⟨i + 1, _, _, gn, (by first | rfl | rw [hwi] | simp [hwi]), ⟨by have := HI.out; have := HD.out; omega⟩, ⟨by rw [HN.out, (gn_at x _ _ i K3.out).1, (gn_at x _ _ i K3.out).2, newN_no HRB.out]⟩, ⟨by rw [take_one (argsF (subF k) x nm z) z35 i (by rw [argsF_len]; exact HD.out), argsF_get _ _ _ _ _ HD.out, ← HY.out, argF_no _ _ K3.out K4.out HRB.out, ← HT_E.out]; exact TeES_snoc _ _ _ _ HE.out HEy.out⟩, HQ, HX, HZ, HR, HG, HP, HB, LN⟩
     ·have K3 := k_ k3
      have k3a : ((i : Int) == bdAt x) = false := beq_eq_false_iff_ne.mpr k3
      have k3b : ((i : Int) != bdAt x) = true := bne_iff_ne.mpr k3
      clear k3
      go_wp2_with (first | ((with_reducible refine gate_dst (N := 9) rfl ?_); refine box_event ?hg (N := 9) ?hd (cs := #[.int .i64 0, .string ⟨#[]⟩, .int .i64 0, .int .i64 0, .slice none 0 0, .slice none 0 0, .slice none 0 0, .slice none 0 0]) (t := 35) ?hr ?_; (case hd => rfl); (case hg => rfl); (case hr => first | (go_simp; done) | (go_simp; rfl)); intro ga hg w12 hbox hb; have N_gx_ga := k_ (nwN hg HX.out); have N_ga_gx := k_ (Ne.symm N_gx_ga.out); have N_gy_ga := k_ (nwN hg HZ.out); have N_ga_gy := k_ (Ne.symm N_gy_ga.out); have N_gr_ga := k_ (nwN hg HR.out); have N_ga_gr := k_ (Ne.symm N_gr_ga.out); have N_gg_ga := k_ (nwN hg HG.out); have N_ga_gg := k_ (Ne.symm N_gg_ga.out); have D_HP_ga := k_ (nwD hg HP.out); have D_HQ_ga := k_ (nwD hg HQ.out); have G_ga := k_ (nwG hg HB.out); replace HX := k_ (blk_below HX.out hb); replace HZ := k_ (blk_below HZ.out hb); replace HR := k_ (blk_below HR.out hb); replace HG := k_ (blk_below HG.out hb); replace HP := k_ (Apt_below HP.out hb); replace HB := k_ (below_step HB.out hb); replace LN := k_ (Nat.le_trans LN.out (below_size hb)); replace HQ := k_ (Apt_below HQ.out hb); have HA := k_ hbox; clear hg hbox hb) | ((with_reducible refine gate_store (t := 35) (p := 9) rfl ?_); have r54 := blk8 HA.out; have z55 := blf8 HA.out; refine store_event (t := 35) (p := 9) (v := ?vo_56) (w1 := w12.setCells ga 0 [.int .i64 y.f0, .string y.f1, .int .i64 y.f2, .int .i64 y.f3.f0, .slice B1 y.f3.f1.length e1, .slice B2 y.f3.f2.length e2, .slice B3 y.f4.length e3, .slice B4 y.f5.length e4]) ?hg ?ho ?hn ?hr ?_; (case ho => rfl); (case hg => rfl); (case hn => rfl); (case hr => first | (go_simp; done) | (go_simp; rfl)); intro w13 hw; replace HX := k_ (bfw hw HX.out N_gx_ga.out); replace HZ := k_ (bfw hw HZ.out N_gy_ga.out); replace HR := k_ (bfw hw HR.out N_gr_ga.out); replace HG := k_ (bfw hw HG.out N_gg_ga.out); replace HP := k_ (apw hw HP.out D_HP_ga.out); replace HB := k_ (bew hw HB.out G_ga.out); replace LN := k_ (siw hw LN.out); replace HQ := k_ (apw hw HQ.out D_HQ_ga.out); replace HA := k_ (show w13.heap[ga]? = some (.cells #[.int .i64 y.f0, .string y.f1, .int .i64 y.f2, .int .i64 y.f3.f0, .slice B1 y.f3.f1.length e1, .slice B2 y.f3.f2.length e2, .slice B3 y.f4.length e3, .slice B4 y.f5.length e4] 35 (0, 0)) from bsw hw HA.out (by simp only [putA, sP, Nat.zero_add, Nat.reduceAdd])); clear hw; clear y0 y1 y2 y3 y4 y5 y6 y7) | (go_at_call 27; refine (impl_binds.calls KB ⟨gx, 0, none⟩ x.f0 x.f1 x.f2 x.f3.f0 _ _ x.f3.f1 _ _ x.f3.f2 _ _ x.f4 _ _ x.f5 (bdAt x) _ (Cells_blk HX.out) (Kd.C_below R1.out.1 HB.out) R1.out.2 (Kd.C_below R2.out.1 HB.out) R2.out.2 (Kd.C_below R3.out.1 HB.out) R3.out.2 (Kd.C_below R4.out.1 HB.out) R4.out.2 HKB.out).mono ?_; rintro e w14 ⟨rfl, hd⟩; have hb := Drawn0.below hd; replace HX := k_ (blk_below HX.out hb); replace HZ := k_ (blk_below HZ.out hb); replace HR := k_ (blk_below HR.out hb); replace HG := k_ (blk_below HG.out hb); replace HP := k_ (Apt_below HP.out hb); replace HB := k_ (below_step HB.out hb); replace LN := k_ (Nat.le_trans LN.out (below_size hb)); replace HQ := k_ (Apt_below HQ.out hb); replace HA := k_ (blk_below HA.out hb); clear hb hd))
      clear k3a k3b
      replace HX := k_ (blk_drew HX.out)
      replace HZ := k_ (blk_drew HZ.out)
      replace HR := k_ (blk_drew HR.out)
      replace HG := k_ (blk_drew HG.out)
      replace HP := k_ (Apt_below HP.out (below_drew1 (Below.refl _ _)))
      replace HB := k_ (below_drew1 HB.out)
      replace LN := k_ (show n1 ≤ w14.drew.heap.size from LN.out)
      replace HQ := k_ (Apt_below HQ.out (below_drew1 (Below.refl _ _)))
      replace HA := k_ (blk_drew HA.out)
      refine start_ (n := 10) (S := fun w' => (w'.heap[gg]? = some (.cells #[.int .i64 x.f0, .string gn, .int .i64 x.f2, .int .i64 x.f3.f0, .slice P1 x.f3.f1.length q1, .slice P2 x.f3.f2.length q2, .slice Ao x.f4.length co, .slice Au i cu] 35 (0, 0))) ∧ (w'.heap[ga]? = some (.cells #[.int .i64 y.f0, .string y.f1, .int .i64 y.f2, .int .i64 y.f3.f0, .slice B1 y.f3.f1.length e1, .slice B2 y.f3.f2.length e2, .slice B3 y.f4.length e3, .slice B4 y.f5.length e4] 35 (0, 0))) ∧ (w'.heap[gy]? = some (.cells #[.int .i64 z.f0, .string z.f1, .int .i64 z.f2, .int .i64 z.f3.f0, .slice D1 z.f3.f1.length kz1, .slice D2 z.f3.f2.length kz2, .slice D3 z.f4.length kz3, .slice D4 z.f5.length kz4] 35 (0, 0)))) (ds := [9]) mSubI13 (by kernel_rfl) rfl rfl ⟨HG.out, HA.out, HZ.out⟩ (fun hHeld => ?_); refine with_tabW tabS.tab15 tabS.bits15 (fun HT_ HW_ => ?_)
      generalize w14.drew = w15 at HX HZ HR HG HP HB LN HQ HA hHeld ⊢
      refine pure_ (i := 0) (N := some 82) (v := ?_) (a' := ?_) mSubI14 rfl rfl (any_of HT_.out (by kernel_rfl)) (fun _ _ _ h => h) (Or.inl ⟨by rfl, ?_⟩) ?_ ?_
      rotate_left
      ·intro w'
       go_simp
       try with_reducible rfl
      rotate_left
      ·simp only [Act.put, sP]
       rfl
      refine pure_ (i := 3) (N := some 85) (v := ?_) (a' := ?_) mSubI16 rfl rfl (any_of HT_.out (by kernel_rfl)) (fun _ _ _ h => h) (Or.inl ⟨by rfl, ?_⟩) ?_ ?_
      rotate_left
      ·intro w'
       go_simp
       try with_reducible rfl
      rotate_left
      ·simp only [Act.put, sP]
       rfl
      refine take_ (i := 1) (N := some 83) (v := ?_) (a' := ?_) mSubI18 rfl rfl (take_ofW HT_.out HW_.out (by kernel_rfl)) (fun _ _ _ h => h) (Or.inl ⟨by rfl, ?_⟩) hHeld ?_ ?_
      rotate_left
      ·rintro w' ⟨s0, s1, s2⟩
       have q0 := blk8 s0
       have q1 := blk8 s1
       have q2 := blk8 s2
       go_simp
       with_reducible rfl
      rotate_left
      ·simp only [Act.put, sP]
       rfl
      refine take_ (i := 2) (N := some 84) (v := ?_) (a' := ?_) mSubI19 rfl rfl (take_ofW HT_.out HW_.out (by kernel_rfl)) (fun _ _ _ h => h) (Or.inl ⟨by rfl, ?_⟩) hHeld ?_ ?_
      rotate_left
      ·rintro w' ⟨s0, s1, s2⟩
       have q0 := blk8 s0
       have q1 := blk8 s1
       have q2 := blk8 s2
       go_simp
       with_reducible rfl
      rotate_left
      ·simp only [Act.put, sP]
       rfl
      refine take_ (i := 4) (N := some 86) (v := ?_) (a' := ?_) mSubI20 rfl rfl (take_ofW HT_.out HW_.out (by kernel_rfl)) (fun _ _ _ h => h) (Or.inl ⟨by rfl, ?_⟩) hHeld ?_ ?_
      rotate_left
      ·rintro w' ⟨s0, s1, s2⟩
       have q0 := blk8 s0
       have q1 := blk8 s1
       have q2 := blk8 s2
       go_simp
       with_reducible rfl
      rotate_left
      ·simp only [Act.put, sP]
       rfl
      refine one_ (i := 5) (N := some 87) mSubI21 rfl rfl (one_of HT_.out (by kernel_rfl)) (by decide) (fun K hK => ?_)
      have HM := k_ (Apt_lt HQ.out)
      have HW0 := k_ (show n1 ≤ w15.heap.size from LN.out)
      refine goes_ Tryd.func7 (by kernel_rfl) rfl #[.agg #[.int .i64 y.f0, .string y.f1, .int .i64 y.f2, .int .i64 y.f3.f0, .slice B1 y.f3.f1.length e1, .slice B2 y.f3.f2.length e2, .slice B3 y.f4.length e3, .slice B4 y.f5.length e4], .string nm, .agg #[.int .i64 z.f0, .string z.f1, .int .i64 z.f2, .int .i64 z.f3.f0, .slice D1 z.f3.f1.length kz1, .slice D2 z.f3.f2.length kz2, .slice D3 z.f4.length kz3, .slice D4 z.f5.length kz4]] (by rfl) rfl rfl (by (try simp only [List.map_toArray, List.map_cons, List.map_nil]); first | done | rfl) ?_
      refine (IH.out y nm z SMY.out SZ.out NYk.out NYz.out B1 e1 B2 e2 B3 e3 B4 e4 D1 kz1 D2 kz2 D3 kz3 D4 kz4 _ ⟨Kd.C_below M1.out.1 HB.out, M1.out.2⟩ ⟨Kd.C_below M2.out.1 HB.out, M2.out.2⟩ ⟨Kd.C_below M3.out.1 HB.out, M3.out.2⟩ ⟨Kd.C_below M4.out.1 HB.out, M4.out.2⟩ ⟨Kd.C_below Z1.out.1 HB.out, Z1.out.2⟩ ⟨Kd.C_below Z2.out.1 HB.out, Z2.out.2⟩ ⟨Kd.C_below Z3.out.1 HB.out, Z3.out.2⟩ ⟨Kd.C_below Z4.out.1 HB.out, Z4.out.2⟩ (Laid_below HL.out HB.out)).mono ?_
      rintro e w16 ⟨hs, rfl, hE, hA, hb⟩
      obtain ⟨t, ht_⟩ : ∃ t_, t_ = subF k y nm z := ⟨_, rfl⟩
      rw [← ht_] at hE
      have HT_E := k_ ht_
      clear ht_
      obtain ⟨Q1, cq1, Q2, cq2, Q3, cq3, Q4, cq4, us', ds, rfl, hus', hds⟩ := TeE_open hE hA
      refine ⟨.agg #[.int .i64 t.f0, .string t.f1, .int .i64 t.f2, .int .i64 t.f3.f0, .slice Q1 t.f3.f1.length cq1, .slice Q2 t.f3.f2.length cq2, .slice Q3 t.f4.length cq3, .slice Q4 t.f5.length cq4], rfl, ?_⟩
      replace HX := k_ (blk_below HX.out hb)
      replace HZ := k_ (blk_below HZ.out hb)
      replace HR := k_ (blk_below HR.out hb)
      replace HG := k_ (blk_below HG.out hb)
      replace HP := k_ (Apt_below HP.out hb)
      replace HB := k_ (below_step HB.out hb)
      replace LN := k_ (Nat.le_trans LN.out (below_size hb))
      replace HQ := k_ (Apt_below HQ.out hb)
      replace HA := k_ (blk_below HA.out hb)
      have HW1 := k_ (show n1 ≤ w16.heap.size from LN.out)
      have HH := k_ hA; have HEy := k_ hE
      clear hA hE hds hus' hb
      refine hK.out _ _ ⟨HG.out, HA.out, HZ.out⟩ (fun hHeld => ?_)
      clear hK K
      refine norm_ (a' := ?_) ?_ ?_
      rotate_left
      ·show Act.put _ (some 87) _ = _
       simp only [Act.put, sP]
       rfl
      refine one_ (i := 6) (N := some 88) mSubI22 rfl rfl (one_of HT_.out (by kernel_rfl)) (by decide) (fun K hK => ?_)
      refine value_ (w1 := ?_) (v := ?_) (by rfl) rfl ?_ ?_
      rotate_left 2
      ·go_simp
       constructor
       ·rfl
       ·rfl
      refine hK.out _ _ ⟨blk_alloc HG.out _, blk_alloc HA.out _, blk_alloc HZ.out _⟩ (fun hHeld => ?_)
      clear hK K
      refine norm_ (a' := ?_) ?_ ?_
      rotate_left
      ·show Act.put _ (some 88) _ = _
       simp only [Act.put, sP]
       rfl
      refine one_ (i := 7) (N := some 89) mSubI23 rfl rfl (one_of HT_.out (by kernel_rfl)) (by decide) (fun K hK => ?_)
      refine step_append_cells (w0 := w) w.heap.size (by rfl) (.tmp 83) (.tmp 88) 33 35 (.agg #[.int .i64 0, .string ⟨#[]⟩, .int .i64 0, .int .i64 0, .slice none 0 0, .slice none 0 0, .slice none 0 0, .slice none 0 0]) 8 136 rfl Tryd.underlying33 info35 rfl (by decide) (by decide) (.slice Au i cu) i (cs.map HT.val) (List.map HT.val [.lf (.int .i64 t.f0), .lf (.string t.f1), .lf (.int .i64 t.f2), .lf (.int .i64 t.f3.f0), strR (.slice Q1 t.f3.f1.length cq1) t.f3.f1, .row 32 3 t.f3.f2.length (.slice Q2 t.f3.f2.length cq2) us', strR (.slice Q3 t.f4.length cq3) t.f4, .row 35 8 t.f5.length (.slice Q4 t.f5.length cq4) ds]) rfl rfl rfl (OkS_one HH.out.1) (own_weaken (row_cells HQ.out) L_w.out) HB.out (below_size HB.out) (by have := SM.out.p5.1; have := HD.out; omega) ?_
      intro u1 w17 ho1 hb1 hg1 hat1
      obtain ⟨Av, cv, rfl⟩ := own_slice ho1
      have HQ1 := k_ (row_append HQ.out HH.out HM.out HW0.out HW1.out ho1 hg1 hat1)
      replace HX := k_ (blk_grown HX.out hg1 (fun he => D_HQ_gx.out gx (row_own he.symm) rfl))
      replace HZ := k_ (blk_grown HZ.out hg1 (fun he => D_HQ_gy.out gy (row_own he.symm) rfl))
      replace HR := k_ (blk_grown HR.out hg1 (fun he => D_HQ_gr.out gr (row_own he.symm) rfl))
      replace HG := k_ (blk_grown HG.out hg1 (fun he => D_HQ_gg.out gg (row_own he.symm) rfl))
      replace HP := k_ (Apt_grown HP.out hg1 (fun b hb he => by have h1 := L_HP.out b hb; have h2 := (OkS_in _ HQ.out.1 b (row_own he.symm)).1; omega))
      replace HB := k_ (hb1)
      replace LN := k_ (Nat.le_trans LN.out hg1.size)
      replace HA := k_ (blk_grown HA.out hg1 (fun he => D_HQ_ga.out ga (row_own he.symm) rfl))
      clear HQ HH HM HW0 HW1 D_HQ_gx D_HQ_gy D_HQ_gr D_HQ_gg
      have HQ := HQ1
      clear HQ1 ho1 hb1 hg1 hat1
      have D_HQ_gx := k_ (Apt_ge HQ.out L_gx.out)
      have D_HQ_gy := k_ (Apt_ge HQ.out L_gy.out)
      have D_HQ_gr := k_ (Apt_ge HQ.out L_gr.out)
      have D_HQ_gg := k_ (Apt_ge HQ.out L_gg.out)
      refine hK.out _ _ ⟨HG.out, HA.out, HZ.out⟩ (fun hHeld => ?_)
      clear hK K
      refine norm_ (a' := ?_) ?_ ?_
      rotate_left
      ·show Act.put _ (some 89) _ = _
       simp only [Act.put, sP]
       rfl
      refine pure_ (i := 8) (N := some 90) (v := ?_) (a' := ?_) mSubI24 rfl rfl (any_of HT_.out (by kernel_rfl)) (fun _ _ _ h => h) (Or.inl ⟨by rfl, ?_⟩) ?_ ?_
      rotate_left
      ·intro w'
       go_simp
       try with_reducible rfl
      rotate_left
      ·simp only [Act.put, sP]
       rfl
      refine last_ (i := 9) (N := none) mSubI25 rfl rfl (one_of HT_.out (by kernel_rfl)) (by decide) (fun K hK => ?_)
      have r57 := blk8 HG.out
      have z58 := blf8 HG.out
      refine skip_ (w1 := w17.setCells gg 7 [.slice Av (i + 1) cv]) (by rfl) rfl (by go_simp; rfl) ?_
      obtain ⟨w18, hw⟩ : ∃ w_, w_ = w17.setCells gg 7 [.slice Av (i + 1) cv] := ⟨_, rfl⟩
      rw [← hw]
      replace HX := k_ (bfw hw HX.out N_gx_gg.out)
      replace HZ := k_ (bfw hw HZ.out N_gy_gg.out)
      replace HR := k_ (bfw hw HR.out N_gr_gg.out)
      replace HG := k_ (show w18.heap[gg]? = some (.cells #[.int .i64 x.f0, .string gn, .int .i64 x.f2, .int .i64 x.f3.f0, .slice P1 x.f3.f1.length q1, .slice P2 x.f3.f2.length q2, .slice Ao x.f4.length co, .slice Av (i + 1) cv] 35 (0, 0)) from bsw hw HG.out (by simp only [putA, sP, Nat.zero_add, Nat.reduceAdd]))
      replace HP := k_ (apw hw HP.out D_HP_gg.out)
      replace HB := k_ (bew hw HB.out G_gg.out)
      replace LN := k_ (siw hw LN.out)
      replace HQ := k_ (apw hw HQ.out D_HQ_gg.out)
      replace HA := k_ (bfw hw HA.out N_ga_gg.out)
      clear hw
      refine hK.out _ _ ?_
      clear hK K
      refine done_ (done_of HT_.out (by kernel_rfl)) ?_
      clear HT_ HW_
      try go_wp2
      go_roundg (gk - 1)
      case measure => have := HI.out; have := HD.out; omega
      case rel => exact ⟨i + 1, _, _, gn, (by first | rfl | rw [hwi] | simp [hwi]), ⟨by have := HI.out; have := HD.out; omega⟩, ⟨by rw [HN.out]; exact gn_step x _ _ i K3.out⟩, ⟨by rw [take_one (argsF (subF k) x nm z) z35 i (by rw [argsF_len]; exact HD.out), argsF_get _ _ _ _ _ HD.out, ← HY.out, argF_ne _ nm z _ K3.out, ← HT_E.out]; exact TeES_snoc _ _ _ _ HE.out HEy.out⟩, HQ, HX, HZ, HR, HG, HP, HB, LN⟩
    ·have d3 : decide ((i : Int) < (x.f5.length : Int)) = false := decide_eq_false (by omega)
     have d4 : ((i : Int) < (x.f5.length : Int)) = False := eq_false (by omega)
     have hz : i = x.f5.length := by have := HI.out; omega
     subst hz
     rw [show (argsF (subF k) x nm z).take x.f5.length = argsF (subF k) x nm z by rw [← argsF_len (subF k) x nm z, List.take_length]] at HE
     clear d1
     have r57 := blk8 HG.out
     go_wp2_with (first | ((with_reducible refine gate_store (t := 35) (p := 6) rfl ?_); have r58 := blk8 HR.out; have z59 := blf8 HR.out; refine store_event (t := 35) (p := 6) (v := ?vo_60) (w1 := wr.setCells gr 0 [.int .i64 x.f0, .string gn, .int .i64 x.f2, .int .i64 x.f3.f0, .slice P1 x.f3.f1.length q1, .slice P2 x.f3.f2.length q2, .slice Ao x.f4.length co, .slice Au x.f5.length cu]) ?hg ?ho ?hn ?hr ?_; (case ho => rfl); (case hg => rfl); (case hn => rfl); (case hr => first | (go_simp; done) | (go_simp; rfl)); intro w9 hw; replace HX := k_ (bfw hw HX.out N_gx_gr.out); replace HZ := k_ (bfw hw HZ.out N_gy_gr.out); replace HR := k_ (show w9.heap[gr]? = some (.cells #[.int .i64 x.f0, .string gn, .int .i64 x.f2, .int .i64 x.f3.f0, .slice P1 x.f3.f1.length q1, .slice P2 x.f3.f2.length q2, .slice Ao x.f4.length co, .slice Au x.f5.length cu] 35 (0, 0)) from bsw hw HR.out (by simp only [putA, sP, Nat.zero_add, Nat.reduceAdd])); replace HG := k_ (bfw hw HG.out N_gg_gr.out); replace HP := k_ (apw hw HP.out D_HP_gr.out); replace HB := k_ (bew hw HB.out G_gr.out); replace LN := k_ (siw hw LN.out); replace HQ := k_ (apw hw HQ.out D_HQ_gr.out); clear hw; have r61 := blk8 HR.out))
     refine bodyPost_ret (results_cell_row rfl _ _ gr 35 #[.int .i64 x.f0, .string gn, .int .i64 x.f2, .int .i64 x.f3.f0, .slice P1 x.f3.f1.length q1, .slice P2 x.f3.f2.length q2, .slice Ao x.f4.length co, .slice Au x.f5.length cu] (0, 0) _ rfl HR.out Tryd.underlying35 rfl (by kernel_rfl)) rfl ?_
     exact ⟨[.lf (.int .i64 x.f0), .lf (.string gn), .lf (.int .i64 x.f2)] ++ [.lf (.int .i64 x.f3.f0), strR (.slice P1 x.f3.f1.length q1) x.f3.f1, .row 32 3 x.f3.f2.length (.slice P2 x.f3.f2.length q2) us, strR (.slice Ao x.f4.length co) x.f4] ++ [HT.row 35 8 x.f5.length (.slice Au x.f5.length cu) cs], rfl, (by rw [subF, if_neg HK.out]; have e1 := HN.out; rw [gn_end] at e1; subst e1; exact (TeE_eq _ _).2 ⟨[.lf (.int .i64 x.f3.f0), strR (.slice P1 x.f3.f1.length q1) x.f3.f1, .row 32 3 x.f3.f2.length (.slice P2 x.f3.f2.length q2) us], _, _, _, (by show _ = _; rw [argsF_len]; rfl), (TyE_eq _ _).2 ⟨_, _, _, rfl, HUS.out⟩, HE.out⟩), Apt_join (a := [.lf (.int .i64 x.f0), .lf (.string gn), .lf (.int .i64 x.f2)] ++ [.lf (.int .i64 x.f3.f0), strR (.slice P1 x.f3.f1.length q1) x.f3.f1, .row 32 3 x.f3.f2.length (.slice P2 x.f3.f2.length q2) us, strR (.slice Ao x.f4.length co) x.f4]) (Apt_lf _ rfl (Apt_lf _ rfl (Apt_lf _ rfl HP.out))) HQ.out (fun b hb => L_HP.out b (by simpa only [List.cons_append, List.nil_append, blS_lf] using hb)) L_w.out, HB.out⟩
end Go.Proofs.YtpckkjeapfdilaaDoor.Px
