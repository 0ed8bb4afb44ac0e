/- spec.SubstTerm: what comes back is subF, in blocks of its own, all different. No condition beyond the sizes named. -/
import Derived.Test.YtpckkjeapfdilaaDoorZSubstTermPx0M
import Derived.Test.YtpckkjeapfdilaaDoorZSubstTermPx5M
import Derived.Test.YtpckkjeapfdilaaDoorZSubstTermPx6M
import Derived.Test.YtpckkjeapfdilaaDoorZSubstTermPx7
import Derived.Test.YtpckkjeapfdilaaDoorZSubstTermPxCopS
import Derived.Test.YtpckkjeapfdilaaDoorZSubstTermPlM
import Derived.Test.YtpckkjeapfdilaaDoorZSubstTermPxHt2M
import Derived.Laws.EntriesVeiled
import Derived.Test.YtpckkjeapfdilaaDoorZSubstTermWLastM
import Derived.Tactics2
import Derived.BigCall
namespace Go.Proofs.YtpckkjeapfdilaaDoor.Px
open Go.RowKit Go.Proofs.YtpckkjeapfdilaaDoorW.PrintWords Go.Proofs.YtpckkjeapfdilaaDoorW.PrintLast Go.Proofs.YtpckkjeapfdilaaDoorW.PrintMore Go.Proofs.YtpckkjeapfdilaaDoor.Pl Go.Proofs.YtpckkjeapfdilaaDoor.Ext
set_option linter.unusedVariables false
set_option linter.unusedSimpArgs false
def mSubS0 : Array Bool := #[false, false, false, false, false, false, false, false, false, false, false, false, false, false, false, false]
def mSubS1 : Array Bool := #[true, false, false, false, false, false, false, false, false, false, false, false, false, false, false, false]
def mSubS2 : Array Bool := #[true, false, true, false, false, false, false, false, false, false, false, false, false, false, false, false]
def mSubS3 : Array Bool := #[true, false, true, true, false, false, false, false, false, false, false, false, false, false, false, false]
def mSubS4 : Array Bool := #[true, false, true, true, false, true, false, false, false, false, false, false, false, false, false, false]
def mSubS5 : Array Bool := #[true, false, true, true, false, true, false, false, true, false, false, false, false, false, false, false]
def mSubS6 : Array Bool := #[true, false, true, true, false, true, false, false, true, false, true, false, false, false, false, false]
def mSubS7 : Array Bool := #[true, true, true, true, false, true, false, false, true, false, true, false, false, false, false, false]
def mSubS8 : Array Bool := #[true, true, true, true, true, true, false, false, true, false, true, false, false, false, false, false]
def mSubS9 : Array Bool := #[true, true, true, true, true, true, false, false, true, true, true, false, false, false, false, false]
def mSubS10 : Array Bool := #[true, true, true, true, true, true, false, false, true, true, true, true, false, false, false, false]
def mSubS11 : Array Bool := #[true, true, true, true, true, true, true, false, true, true, true, true, false, false, false, false]
def mSubS12 : Array Bool := #[true, true, true, true, true, true, true, true, true, true, true, true, false, false, false, false]
def mSubS13 : Array Bool := #[true, true, true, true, true, true, true, true, true, true, true, true, true, false, false, false]
def mSubS14 : Array Bool := #[true, true, true, true, true, true, true, true, true, true, true, true, true, true, false, false]
def mSubS15 : Array Bool := #[true, true, true, true, true, true, true, true, true, true, true, true, true, true, true, false]
def mSubS16 : Array Bool := #[true, true, true, true, true, true, true, true, true, true, true, true, true, true, true, true]
def mSubS17 : Array Bool := #[false, false, false, false, false, false, false, false, false, false, false, false, false]
def mSubS18 : Array Bool := #[true, false, false, false, false, false, false, false, false, false, false, false, false]
def mSubS19 : Array Bool := #[true, false, true, false, false, false, false, false, false, false, false, false, false]
def mSubS20 : Array Bool := #[true, false, true, true, false, false, false, false, false, false, false, false, false]
def mSubS21 : Array Bool := #[true, false, true, true, false, true, false, false, false, false, false, false, false]
def mSubS22 : Array Bool := #[true, false, true, true, false, true, false, false, true, false, false, false, false]
def mSubS23 : Array Bool := #[true, true, true, true, false, true, false, false, true, false, false, false, false]
def mSubS24 : Array Bool := #[true, true, true, true, true, true, false, false, true, false, false, false, false]
def mSubS25 : Array Bool := #[true, true, true, true, true, true, false, false, true, true, false, false, false]
def mSubS26 : Array Bool := #[true, true, true, true, true, true, true, false, true, true, false, false, false]
def mSubS27 : Array Bool := #[true, true, true, true, true, true, true, true, true, true, false, false, false]
def mSubS28 : Array Bool := #[true, true, true, true, true, true, true, true, true, true, true, false, false]
def mSubS29 : Array Bool := #[true, true, true, true, true, true, true, true, true, true, true, true, false]
def mSubS30 : Array Bool := #[true, true, true, true, true, true, true, true, true, true, true, true, true]
def tabR.T10 : Bool × List (List Nat × List Nat) := (true, [([], []), ([0], [0]), ([], []), ([], []), ([3], [3]), ([], []), ([4, 5], [4, 5]), ([6], [6]), ([], []), ([8], [8]), ([], []), ([10], [10]), ([11], [11]), ([7, 9, 12, 12], [7, 9, 12]), ([1, 2, 0, 1, 2, 3, 4, 5, 6, 7, 8, 9, 10, 11, 12, 13], [1, 2]), ([14, 13, 13, 0, 1, 2, 3, 4, 5, 6, 7, 8, 9, 10, 11, 12, 13], [13, 14])])
def tabR.B10 : List Nat := [0, 1, 0, 0, 8, 0, 56, 120, 0, 256, 0, 1024, 3072, 8184, 16383, 32767]
theorem tabR.tab10 : rtab .any (opsOf Tryd.f5 10) = tabR.T10 := by kernel_rfl
theorem tabR.bits10 : waitsOk tabR.T10.2 tabR.B10 = true := by kernel_rfl
def tabR.T15 : Bool × List (List Nat × List Nat) := (true, [([], []), ([0], [0]), ([], []), ([], []), ([3], [3]), ([], []), ([4, 5], [4, 5]), ([6], [6]), ([], []), ([], []), ([7, 8, 9], [7, 8, 9]), ([1, 2, 0, 1, 2, 3, 4, 5, 6, 7, 8, 9, 10], [1, 2]), ([11, 10, 10, 0, 1, 2, 3, 4, 5, 6, 7, 8, 9, 10], [10, 11])])
def tabR.B15 : List Nat := [0, 1, 0, 0, 8, 0, 56, 120, 0, 0, 1016, 2047, 4095]
theorem tabR.tab15 : rtab .any (opsOf Tryd.f5 15) = tabR.T15 := by kernel_rfl
theorem tabR.bits15 : waitsOk tabR.T15.2 tabR.B15 = true := by kernel_rfl
set_option maxHeartbeats 8000000 in
set_option maxRecDepth 100000 in
theorem specSubst_st : ∀ (k : Nat) (x : S35) (nm : ByteArray) (z : S35), SmTerm x → SmTerm z → ndTerm x ≤ k → ndTerm x + ndTerm z ≤ 1048578 → ∀ (A1 : Option Addr) (c1 : Nat) (A2 : Option Addr) (c2 : Nat) (A3 : Option Addr) (c3 : Nat) (A4 : Option Addr) (c4 : Nat) (D1 : Option Addr) (kz1 : Nat) (D2 : Option Addr) (kz2 : Nat) (D3 : Option Addr) (kz3 : Nat) (D4 : Option Addr) (kz4 : Nat) (w : World) (h1 : Kd.C Kd.string w A1 x.f3.f1.length x.f3.f1 ∧ x.f3.f1.length ≤ c1) (h2 : Kd.C k32 w A2 x.f3.f2.length x.f3.f2 ∧ x.f3.f2.length ≤ c2) (h3 : Kd.C Kd.string w A3 x.f4.length x.f4 ∧ x.f4.length ≤ c3) (h4 : Kd.C k35 w A4 x.f5.length x.f5 ∧ x.f5.length ≤ c4) (g1 : Kd.C Kd.string w D1 z.f3.f1.length z.f3.f1 ∧ z.f3.f1.length ≤ kz1) (g2 : Kd.C k32 w D2 z.f3.f2.length z.f3.f2 ∧ z.f3.f2.length ≤ kz2) (g3 : Kd.C Kd.string w D3 z.f4.length z.f4 ∧ z.f4.length ≤ kz3) (g4 : Kd.C k35 w D4 z.f5.length z.f5 ∧ z.f5.length ≤ kz4),
  Calls Tryd.prog 5 #[.agg #[.int .i64 x.f0, .string x.f1, .int .i64 x.f2, .int .i64 x.f3.f0, .slice A1 x.f3.f1.length c1, .slice A2 x.f3.f2.length c2, .slice A3 x.f4.length c3, .slice A4 x.f5.length c4], .string nm, .agg #[.int .i64 z.f0, .string z.f1, .int .i64 z.f2, .int .i64 z.f3.f0, .slice D1 z.f3.f1.length kz1, .slice D2 z.f3.f2.length kz2, .slice D3 z.f4.length kz3, .slice D4 z.f5.length kz4]] w fun e w' => ∃ hs : List HT, e = .returned (.agg (hs.map HT.val).toArray) ∧ TeE (subF k x nm z) hs ∧ Apt w' w.heap.size hs ∧ Below w.heap.size w w' := by
 intro k
 induction k with
 | zero => intro x nm z _ _ hk; exact absurd hk (by have := nd_pos x; omega)
 | succ k ih =>
  intro x nm z hs hz hk hn A1 c1 A2 c2 A3 c3 A4 c4 D1 kz1 D2 kz2 D3 kz3 D4 kz4 w h1 h2 h3 h4 g1 g2 g3 g4
  have IH := k_ ih; have SM := k_ hs; have SZ := k_ hz; have NK := k_ hk; have NN := k_ hn; have R1 := k_ h1; have R2 := k_ h2; have R3 := k_ h3; have R4 := k_ h4; have Z1 := k_ g1; have Z2 := k_ g2; have Z3 := k_ g3; have Z4 := k_ g4; have HB := k_ (Below.refl w.heap.size w)
  clear ih hs hz hk hn h1 h2 h3 h4 g1 g2 g3 g4
  obtain ⟨bd, hbd⟩ : ∃ b, b = bdAt x := ⟨_, rfl⟩
  obtain ⟨KB, hKB⟩ := bindsS_ev x
  have HKB := k_ (show spec_l11Binds.f KB x.f0 x.f1 x.f2 x.f3.f0 x.f3.f1 x.f3.f2 x.f4 x.f5 = some bd by rw [hbd]; exact hKB KB (Nat.le_refl _))
  have HBD := k_ hbd
  clear hKB hbd
  have hu35 := Tryd.underlying35
  have hu32 := Tryd.underlying32
  go_enter Tryd.func5, Tryd.ntmps5
  go_upto_region 1 with (first | ((with_reducible refine gate_dst (N := 3) rfl ?_); refine box_event ?hg (N := 3) ?hd (cs := #[.int .i64 x.f0, .string x.f1, .int .i64 x.f2, .int .i64 x.f3.f0, .slice A1 x.f3.f1.length c1, .slice A2 x.f3.f2.length c2, .slice A3 x.f4.length c3, .slice A4 x.f5.length c4]) (t := 35) ?hr ?_; (case hd => rfl); (case hg => rfl); (case hr => first | (go_simp; done) | (go_simp; rfl)); intro gx hg w1 hbox hb; have G_gx := k_ (nwG hg HB.out); replace HB := k_ (below_step HB.out hb); have HX := k_ hbox; clear hg hbox hb) | ((with_reducible refine gate_dst (N := 5) rfl ?_); refine box_event ?hg (N := 5) ?hd (cs := #[.int .i64 z.f0, .string z.f1, .int .i64 z.f2, .int .i64 z.f3.f0, .slice D1 z.f3.f1.length kz1, .slice D2 z.f3.f2.length kz2, .slice D3 z.f4.length kz3, .slice D4 z.f5.length kz4]) (t := 35) ?hr ?_; (case hd => rfl); (case hg => rfl); (case hr => first | (go_simp; done) | (go_simp; rfl)); intro gy hg w2 hbox hb; have N_gx_gy := k_ (nwN hg HX.out); have N_gy_gx := k_ (Ne.symm N_gx_gy.out); have G_gy := k_ (nwG hg HB.out); replace HB := k_ (below_step HB.out hb); replace HX := k_ (blk_below HX.out hb); have HZ := k_ hbox; clear hg hbox hb) | ((with_reducible refine gate_dst (N := 6) rfl ?_); refine box_event ?hg (N := 6) ?hd (cs := #[.int .i64 0, .string ⟨#[]⟩, .int .i64 0, .int .i64 0, .slice none 0 0, .slice none 0 0, .slice none 0 0, .slice none 0 0]) (t := 35) ?hr ?_; (case hd => rfl); (case hg => rfl); (case hr => first | (go_simp; done) | (go_simp; rfl)); intro gr hg w3 hbox hb; have N_gx_gr := k_ (nwN hg HX.out); have N_gr_gx := k_ (Ne.symm N_gx_gr.out); have N_gy_gr := k_ (nwN hg HZ.out); have N_gr_gy := k_ (Ne.symm N_gy_gr.out); have G_gr := k_ (nwG hg HB.out); replace HB := k_ (below_step HB.out hb); replace HX := k_ (blk_below HX.out hb); replace HZ := k_ (blk_below HZ.out hb); have HR := k_ hbox; clear hg hbox hb))
  (try simp only [Act.put, sP])
  go_cut [20] (fun v20 w' => ∃ b : Bool, v20 = .bool b ∧ Aside0 (b = true ↔ x.f0 = 1 ∧ x.f1 = nm) ∧ Aside0 (w'.heap[gx]? = some (.cells #[.int .i64 x.f0, .string x.f1, .int .i64 x.f2, .int .i64 x.f3.f0, .slice A1 x.f3.f1.length c1, .slice A2 x.f3.f2.length c2, .slice A3 x.f4.length c3, .slice A4 x.f5.length c4] 35 (0, 0))) ∧ Aside0 (w'.heap[gy]? = some (.cells #[.int .i64 z.f0, .string z.f1, .int .i64 z.f2, .int .i64 z.f3.f0, .slice D1 z.f3.f1.length kz1, .slice D2 z.f3.f2.length kz2, .slice D3 z.f4.length kz3, .slice D4 z.f5.length kz4] 35 (0, 0))) ∧ Aside0 (w'.heap[gr]? = some (.cells #[.int .i64 0, .string ⟨#[]⟩, .int .i64 0, .int .i64 0, .slice none 0 0, .slice none 0 0, .slice none 0 0, .slice none 0 0] 35 (0, 0))) ∧ Aside0 (Below w.heap.size w w'))
  case first =>
   have r1001 := blk8 HX.out
   by_cases k1 : x.f0 = 1
   ·have k1' := k_ k1
    have k1a : (x.f0 == 1) = true := beq_iff_eq.mpr k1
    have k1b : (x.f0 != 1) = false := bne_eq_false_iff_eq.mpr k1
    clear k1
    by_cases k2 : x.f1 = nm
    ·have k2' := k_ k2
     have k2a : (x.f1.toList == nm.toList) = true := beq_iff_eq.mpr (congrArg ByteArray.toList k2)
     have k2b : (x.f1.toList != nm.toList) = false := bne_eq_false_iff_eq.mpr (congrArg ByteArray.toList k2)
     clear k2
     go_wp2
     go_meet
     case rel => exact ⟨true, (by first | rfl | simp [i64_w, i32_w, *]), ⟨fun _ => ⟨k1'.out, k2'.out⟩, fun _ => rfl⟩, HX, HZ, HR, HB⟩
    ·have k2' := k_ k2
     have k2a : (x.f1.toList == nm.toList) = false := beq_eq_false_iff_ne.mpr (fun e => k2 (str_ext e))
     have k2b : (x.f1.toList != nm.toList) = true := bne_iff_ne.mpr (fun e => k2 (str_ext e))
     clear k2
     go_wp2
     go_meet
     case rel => exact ⟨false, (by first | rfl | simp [i64_w, i32_w, *]), ⟨(fun h => by cases h), fun h => absurd h.2 k2'.out⟩, HX, HZ, HR, HB⟩
   ·have k1' := k_ k1
    have k1a : (x.f0 == 1) = false := beq_eq_false_iff_ne.mpr k1
    have k1b : (x.f0 != 1) = true := bne_iff_ne.mpr k1
    clear k1
    go_wp2
    go_meet
    case rel => exact ⟨false, (by first | rfl | simp [i64_w, i32_w, *]), ⟨(fun h => by cases h), fun h => absurd h.1 k1'.out⟩, HX, HZ, HR, HB⟩
  case rest =>
   clear HX HZ HR HB
   obtain ⟨b, rfl, HC, HX, HZ, HR, HB⟩ := hcut
   cases b
   rotate_left
   ·have HK := k_ (HC.out.1 rfl)
    clear HC
    have r1002 := blk8 HZ.out
    go_wp2_with (first | (go_at_call 14; refine (l7Copy_st z SZ.out _ _ _ _ _ _ _ _ _ ⟨Kd.C_below Z1.out.1 HB.out, Z1.out.2⟩ ⟨Kd.C_below Z2.out.1 HB.out, Z2.out.2⟩ ⟨Kd.C_below Z3.out.1 HB.out, Z3.out.2⟩ ⟨Kd.C_below Z4.out.1 HB.out, Z4.out.2⟩).mono ?_; rintro e w4 ⟨hs, he, hE, hA, hb⟩; obtain ⟨Q1, cq1, Q2, cq2, Q3, cq3, Q4, cq4, us', ds, rfl, hus', hds⟩ := TeE_open hE hA; obtain rfl : e = .returned (.agg #[.int .i64 z.f0, .string z.f1, .int .i64 z.f2, .int .i64 z.f3.f0, .slice Q1 z.f3.f1.length cq1, .slice Q2 z.f3.f2.length cq2, .slice Q3 z.f4.length cq3, .slice Q4 z.f5.length cq4]) := he; have D_HC1_gx := k_ (Apt_ge hA (blk_lt HX.out)); have D_HC1_gy := k_ (Apt_ge hA (blk_lt HZ.out)); have D_HC1_gr := k_ (Apt_ge hA (blk_lt HR.out)); have HC11 := k_ (Apt_lower hA (below_size HB.out)); replace HB := k_ (below_step HB.out hb); replace HX := k_ (blk_below HX.out hb); replace HZ := k_ (blk_below HZ.out hb); replace HR := k_ (blk_below HR.out hb); have HC1 := HC11; have HC1E := k_ hE; clear HC11 hA hE hus' hds hb) | ((with_reducible refine gate_store (t := 35) (p := 6) rfl ?_); have r1002 := blk8 HR.out; have z1003 := blf8 HR.out; refine store_event (t := 35) (p := 6) (v := ?vo_1004) (w1 := w4.setCells gr 0 [.int .i64 z.f0, .string z.f1, .int .i64 z.f2, .int .i64 z.f3.f0, .slice Q1 z.f3.f1.length cq1, .slice Q2 z.f3.f2.length cq2, .slice Q3 z.f4.length cq3, .slice Q4 z.f5.length cq4]) ?hg ?ho ?hn ?hr ?_; (case ho => rfl); (case hg => rfl); (case hn => rfl); (case hr => first | (go_simp; done) | (go_simp; rfl)); intro w5 hw; replace HB := k_ (bew hw HB.out G_gr.out); replace HX := k_ (bfw hw HX.out N_gx_gr.out); replace HZ := k_ (bfw hw HZ.out N_gy_gr.out); replace HR := k_ (show w5.heap[gr]? = some (.cells #[.int .i64 z.f0, .string z.f1, .int .i64 z.f2, .int .i64 z.f3.f0, .slice Q1 z.f3.f1.length cq1, .slice Q2 z.f3.f2.length cq2, .slice Q3 z.f4.length cq3, .slice Q4 z.f5.length cq4] 35 (0, 0)) from bsw hw HR.out (by simp only [putA, sP, Nat.zero_add, Nat.reduceAdd])); replace HC1 := k_ (apw hw HC1.out D_HC1_gr.out); clear hw; have r1005 := blk8 HR.out))
    refine bodyPost_ret (results_cell_row rfl _ _ gr 35 #[.int .i64 z.f0, .string z.f1, .int .i64 z.f2, .int .i64 z.f3.f0, .slice Q1 z.f3.f1.length cq1, .slice Q2 z.f3.f2.length cq2, .slice Q3 z.f4.length cq3, .slice Q4 z.f5.length cq4] (0, 0) _ rfl HR.out Tryd.underlying35 rfl (by kernel_rfl)) rfl ?_
    exact ⟨_, rfl, (by rw [subF, if_pos HK.out]; exact HC1E.out), HC1.out, HB.out⟩
   have HK := k_ (show ¬ (x.f0 = 1 ∧ x.f1 = nm) from fun h => Bool.false_ne_true (HC.out.2 h))
   clear HC
   have r1105 := blk8 HX.out
   go_upto_region 5 with (first | (go_at_call 14; obtain ⟨n1, hn1⟩ : ∃ n, n = wc.heap.size := ⟨_, rfl⟩; have L_w := k_ (show w.heap.size ≤ n1 by rw [hn1]; exact below_size HB.out); have L1_ := k_ (show n1 ≤ wc.heap.size by rw [hn1]; exact Nat.le_refl _); have L_gx := k_ (show gx < n1 by rw [hn1]; exact blk_lt HX.out); have L_gy := k_ (show gy < n1 by rw [hn1]; exact blk_lt HZ.out); have L_gr := k_ (show gr < n1 by rw [hn1]; exact blk_lt HR.out); refine (l7Copy_st x SM.out _ _ _ _ _ _ _ _ _ ⟨Kd.C_below R1.out.1 HB.out, R1.out.2⟩ ⟨Kd.C_below R2.out.1 HB.out, R2.out.2⟩ ⟨Kd.C_below R3.out.1 HB.out, R3.out.2⟩ ⟨Kd.C_below R4.out.1 HB.out, R4.out.2⟩).mono ?_; skip; skip; rintro e w4 ⟨hs, he, hE, hA, hb⟩; obtain ⟨P1, q1, P2, q2, Ao, co, Q4, cq4, us, cs0, rfl, hus, hcs⟩ := TeE_open hE hA; obtain rfl : e = .returned (.agg #[.int .i64 x.f0, .string x.f1, .int .i64 x.f2, .int .i64 x.f3.f0, .slice P1 x.f3.f1.length q1, .slice P2 x.f3.f2.length q2, .slice Ao x.f4.length co, .slice Q4 x.f5.length cq4]) := he; have HQ1 := k_ (show Apt w4 n1 ([.lf (.int .i64 x.f3.f0), strR (.slice P1 x.f3.f1.length q1) x.f3.f1, .row 32 3 x.f3.f2.length (.slice P2 x.f3.f2.length q2) us, strR (.slice Ao x.f4.length co) x.f4] ++ [HT.row 35 8 x.f5.length (.slice Q4 x.f5.length cq4) cs0]) by rw [hn1]; exact Apt_tl (Apt_tl (Apt_tl hA))); have HUS := k_ hus; have HE0 := k_ hcs; have LN := L1_; replace HX := k_ (blk_below HX.out hb); replace HZ := k_ (blk_below HZ.out hb); replace HR := k_ (blk_below HR.out hb); replace HB := k_ (below_step HB.out hb); replace LN := k_ (Nat.le_trans LN.out (below_size hb)); have HQ := HQ1; have D_HQ_gx := k_ (show ∀ b ∈ blS ([.lf (.int .i64 x.f3.f0), strR (.slice P1 x.f3.f1.length q1) x.f3.f1, .row 32 3 x.f3.f2.length (.slice P2 x.f3.f2.length q2) us, strR (.slice Ao x.f4.length co) x.f4] ++ [HT.row 35 8 x.f5.length (.slice Q4 x.f5.length cq4) cs0]), b ≠ gx from Apt_ge HQ.out L_gx.out); have D_HQ_gy := k_ (show ∀ b ∈ blS ([.lf (.int .i64 x.f3.f0), strR (.slice P1 x.f3.f1.length q1) x.f3.f1, .row 32 3 x.f3.f2.length (.slice P2 x.f3.f2.length q2) us, strR (.slice Ao x.f4.length co) x.f4] ++ [HT.row 35 8 x.f5.length (.slice Q4 x.f5.length cq4) cs0]), b ≠ gy from Apt_ge HQ.out L_gy.out); have D_HQ_gr := k_ (show ∀ b ∈ blS ([.lf (.int .i64 x.f3.f0), strR (.slice P1 x.f3.f1.length q1) x.f3.f1, .row 32 3 x.f3.f2.length (.slice P2 x.f3.f2.length q2) us, strR (.slice Ao x.f4.length co) x.f4] ++ [HT.row 35 8 x.f5.length (.slice Q4 x.f5.length cq4) cs0]), b ≠ gr from Apt_ge HQ.out L_gr.out); clear HQ1 hA hE hus hcs hb L1_ hn1) | ((with_reducible refine gate_dst (N := 7) rfl ?_); refine box_event ?hg (N := 7) ?hd (cs := #[.int .i64 0, .string ⟨#[]⟩, .int .i64 0, .int .i64 0, .slice none 0 0, .slice none 0 0, .slice none 0 0, .slice none 0 0]) (t := 35) ?hr ?_; (case hd => rfl); (case hg => rfl); (case hr => first | (go_simp; done) | (go_simp; rfl)); intro gg hg w5 hbox hb; have N_gx_gg := k_ (nwN hg HX.out); have N_gg_gx := k_ (Ne.symm N_gx_gg.out); have N_gy_gg := k_ (nwN hg HZ.out); have N_gg_gy := k_ (Ne.symm N_gy_gg.out); have N_gr_gg := k_ (nwN hg HR.out); have N_gg_gr := k_ (Ne.symm N_gr_gg.out); have D_HQ_gg := k_ (nwD hg HQ.out); have G_gg := k_ (nwG hg HB.out); replace HX := k_ (blk_below HX.out hb); replace HZ := k_ (blk_below HZ.out hb); replace HR := k_ (blk_below HR.out hb); replace HB := k_ (below_step HB.out hb); replace LN := k_ (Nat.le_trans LN.out (below_size hb)); replace HQ := k_ (Apt_below HQ.out hb); have HG := k_ hbox; clear hg hbox hb; have O_gg := k_ (show ∀ k_, (Value.slice Q4 x.f5.length cq4).ownBlock = some k_ → k_ ≠ gg from fun k_ hk_ => D_HQ_gg.out k_ (own_tail hk_))) | ((with_reducible refine gate_store (t := 35) (p := 7) rfl ?_); have r1101 := blk8 HG.out; have z1102 := blf8 HG.out; refine store_event (t := 35) (p := 7) (v := ?vo_1103) (w1 := w5.setCells gg 0 [.int .i64 x.f0, .string x.f1, .int .i64 x.f2, .int .i64 x.f3.f0, .slice P1 x.f3.f1.length q1, .slice P2 x.f3.f2.length q2, .slice Ao x.f4.length co, .slice Q4 x.f5.length cq4]) ?hg ?ho ?hn ?hr ?_; (case ho => rfl); (case hg => rfl); (case hn => rfl); (case hr => first | (go_simp; done) | (go_simp; rfl)); intro w6 hw; replace HX := k_ (bfw hw HX.out N_gx_gg.out); replace HZ := k_ (bfw hw HZ.out N_gy_gg.out); replace HR := k_ (bfw hw HR.out N_gr_gg.out); replace HB := k_ (bew hw HB.out G_gg.out); replace LN := k_ (siw hw LN.out); replace HQ := k_ (apw hw HQ.out D_HQ_gg.out); replace HG := k_ (show w6.heap[gg]? = some (.cells #[.int .i64 x.f0, .string x.f1, .int .i64 x.f2, .int .i64 x.f3.f0, .slice P1 x.f3.f1.length q1, .slice P2 x.f3.f2.length q2, .slice Ao x.f4.length co, .slice Q4 x.f5.length cq4] 35 (0, 0)) from bsw hw HG.out (by simp only [putA, sP, Nat.zero_add, Nat.reduceAdd])); clear hw; have r1104 := blk8 HX.out) | (go_at_call 15; refine (spec_l11Binds.calls KB x.f0 x.f1 x.f2 x.f3.f0 _ _ x.f3.f1 _ _ x.f3.f2 _ _ x.f4 _ _ x.f5 bd _ (Kd.C_below R1.out.1 HB.out) R1.out.2 (Kd.C_below R2.out.1 HB.out) R2.out.2 (Kd.C_below R3.out.1 HB.out) R3.out.2 (Kd.C_below R4.out.1 HB.out) R4.out.2 HKB.out).mono ?_; rintro e w7 ⟨rfl, hb⟩; replace HX := k_ (blk_below HX.out hb); replace HZ := k_ (blk_below HZ.out hb); replace HR := k_ (blk_below HR.out hb); replace HB := k_ (below_step HB.out hb); replace LN := k_ (Nat.le_trans LN.out (below_size hb)); replace HQ := k_ (Apt_below HQ.out hb); replace HG := k_ (blk_below HG.out hb); clear hb))
   (try simp only [Act.put, sP])
   go_cut [34] (fun v34 w' => ∃ c : Bool, v34 = .bool c ∧ Aside0 (c = true ↔ 0 ≤ bd ∧ ¬ x.f1 = nm) ∧ Aside0 (w'.heap[gx]? = some (.cells #[.int .i64 x.f0, .string x.f1, .int .i64 x.f2, .int .i64 x.f3.f0, .slice A1 x.f3.f1.length c1, .slice A2 x.f3.f2.length c2, .slice A3 x.f4.length c3, .slice A4 x.f5.length c4] 35 (0, 0))) ∧ Aside0 (w'.heap[gy]? = some (.cells #[.int .i64 z.f0, .string z.f1, .int .i64 z.f2, .int .i64 z.f3.f0, .slice D1 z.f3.f1.length kz1, .slice D2 z.f3.f2.length kz2, .slice D3 z.f4.length kz3, .slice D4 z.f5.length kz4] 35 (0, 0))) ∧ Aside0 (w'.heap[gr]? = some (.cells #[.int .i64 0, .string ⟨#[]⟩, .int .i64 0, .int .i64 0, .slice none 0 0, .slice none 0 0, .slice none 0 0, .slice none 0 0] 35 (0, 0))) ∧ Aside0 (w'.heap[gg]? = some (.cells #[.int .i64 x.f0, .string x.f1, .int .i64 x.f2, .int .i64 x.f3.f0, .slice P1 x.f3.f1.length q1, .slice P2 x.f3.f2.length q2, .slice Ao x.f4.length co, .slice Q4 x.f5.length cq4] 35 (0, 0))) ∧ Aside0 (Apt w' n1 ([.lf (.int .i64 x.f3.f0), strR (.slice P1 x.f3.f1.length q1) x.f3.f1, .row 32 3 x.f3.f2.length (.slice P2 x.f3.f2.length q2) us, strR (.slice Ao x.f4.length co) x.f4] ++ [HT.row 35 8 x.f5.length (.slice Q4 x.f5.length cq4) cs0])) ∧ Aside0 (n1 ≤ w'.heap.size) ∧ Aside0 (Below w.heap.size w w'))
   case first =>
    have r1106 := blk8 HX.out
    by_cases c1 : bd ≥ 0
    ·have c1a : decide (bd ≥ 0) = true := decide_eq_true c1; have c1b := c1a
     have c1' := k_ c1
     clear c1
     by_cases k2 : x.f1 = nm
     ·have k2' := k_ k2
      have k2a : (x.f1.toList == nm.toList) = true := beq_iff_eq.mpr (congrArg ByteArray.toList k2)
      have k2b : (x.f1.toList != nm.toList) = false := bne_eq_false_iff_eq.mpr (congrArg ByteArray.toList k2)
      clear k2
      go_wp2
      go_meet
      case rel => exact ⟨false, (by first | rfl | simp [i64_w, i32_w, *]), ⟨(fun h => by cases h), fun h => absurd k2'.out h.2⟩, HX, HZ, HR, HG, HQ, LN, HB⟩
     ·have k2' := k_ k2
      have k2a : (x.f1.toList == nm.toList) = false := beq_eq_false_iff_ne.mpr (fun e => k2 (str_ext e))
      have k2b : (x.f1.toList != nm.toList) = true := bne_iff_ne.mpr (fun e => k2 (str_ext e))
      clear k2
      go_wp2
      go_meet
      case rel => exact ⟨true, (by first | rfl | simp [i64_w, i32_w, *]), ⟨(fun _ => ⟨c1'.out, k2'.out⟩), fun _ => rfl⟩, HX, HZ, HR, HG, HQ, LN, HB⟩
    ·have c1a : decide (bd ≥ 0) = false := decide_eq_false c1; have c1b := c1a
     have c1' := k_ c1
     clear c1
     go_wp2
     go_meet
     case rel => exact ⟨false, (by first | rfl | simp [i64_w, i32_w, *]), ⟨(fun h => by cases h), fun h => absurd h.1 (by have := c1'.out; omega)⟩, HX, HZ, HR, HG, HQ, LN, HB⟩
   case rest =>
    clear HX HZ HR HG HQ LN HB
    obtain ⟨c, rfl, HC, HX, HZ, HR, HG, HQ, LN, HB⟩ := hcut
    try go_upto_if 34 with (fail)
    (try simp only [Act.put, sP])
    go_cut [9, 10] (fun v9 v10 w' => ∃ (gn : ByteArray) (ys : List S35) (cs : List HT), Aside0 (gn = newN x nm z) ∧ Aside0 (Row (subF k) x nm z 0 ys) ∧ Aside0 (TeES ys cs) ∧ Aside0 (w'.heap[gx]? = some (.cells #[.int .i64 x.f0, .string x.f1, .int .i64 x.f2, .int .i64 x.f3.f0, .slice A1 x.f3.f1.length c1, .slice A2 x.f3.f2.length c2, .slice A3 x.f4.length c3, .slice A4 x.f5.length c4] 35 (0, 0))) ∧ Aside0 (w'.heap[gy]? = some (.cells #[.int .i64 z.f0, .string z.f1, .int .i64 z.f2, .int .i64 z.f3.f0, .slice D1 z.f3.f1.length kz1, .slice D2 z.f3.f2.length kz2, .slice D3 z.f4.length kz3, .slice D4 z.f5.length kz4] 35 (0, 0))) ∧ Aside0 (w'.heap[gr]? = some (.cells #[.int .i64 0, .string ⟨#[]⟩, .int .i64 0, .int .i64 0, .slice none 0 0, .slice none 0 0, .slice none 0 0, .slice none 0 0] 35 (0, 0))) ∧ Aside0 (w'.heap[gg]? = some (.cells #[.int .i64 x.f0, .string gn, .int .i64 x.f2, .int .i64 x.f3.f0, .slice P1 x.f3.f1.length q1, .slice P2 x.f3.f2.length q2, .slice Ao x.f4.length co, .slice Q4 x.f5.length cq4] 35 (0, 0))) ∧ Aside0 (Apt w' n1 ([.lf (.int .i64 x.f3.f0), strR (.slice P1 x.f3.f1.length q1) x.f3.f1, .row 32 3 x.f3.f2.length (.slice P2 x.f3.f2.length q2) us, strR (.slice Ao x.f4.length co) x.f4] ++ [HT.row 35 8 x.f5.length (.slice Q4 x.f5.length cq4) cs])) ∧ Aside0 (n1 ≤ w'.heap.size) ∧ Aside0 (Below w.heap.size w w'))
    case first =>
     cases c
     ·have HRB := k_ (show renB x nm z = false from renB_nb z (fun h => Bool.false_ne_true (HC.out.2 (by rw [HBD.out]; exact h))))
      clear HC
      go_wp2
      go_meet
      case rel => exact ⟨x.f1, x.f5, cs0, ⟨(newN_no HRB.out).symm⟩, ⟨Row_start (subF k) HRB.out⟩, HE0, HX, HZ, HR, HG, HQ, LN, HB⟩
     ·have HCT := k_ (HC.out.1 rfl)
      clear HC
      obtain ⟨i, hi_⟩ : ∃ i : Nat, bd = (i : Int) := ⟨bd.toNat, by have := HCT.out.1; omega⟩
      subst hi_
      have K4 := k_ HCT.out.2; have KI := k_ (show (i : Int) = bdAt x from HBD.out)
      have d1 : i < x.f5.length := by have h_ := bdAt_lt x (by rw [← KI.out]; omega); rw [← KI.out, Int.toNat_natCast] at h_; exact h_
      have HD := k_ d1
      have d2 : (i : Int) < (x.f5.length : Int) := by omega
      have d3 : decide ((i : Int) < (x.f5.length : Int)) = true := decide_eq_true d2
      have d4 := eq_true d2
      have d5 : (0 ≤ (i : Int)) = True := eq_true (by omega)
      obtain ⟨ad, B1, e1, B2, e2, B3, e3, B4, e4, eA, y0, y1, y2, y3, y4, y5, y6, y7, m1, o1, m2, o2, m3, o3, m4, o4⟩ := at_T35 R4.out.1 (i : Int) (by omega) d2
      cases eA
      obtain ⟨y, hy⟩ : ∃ y, y = rd_T35 x.f5 (i : Int) := ⟨_, rfl⟩
      rw [← hy] at y0 y1 y2 y3 y4 y5 y6 y7 m1 o1 m2 o2 m3 o3 m4 o4
      have HY := k_ (show y = x.f5.getD i z35 by rw [hy]; rfl)
      simp only [Int.toNat_natCast] at y0 y1 y2 y3 y4 y5 y6 y7
      have M1 := k_ (And.intro o1 m1); have M2 := k_ (And.intro o2 m2); have M3 := k_ (And.intro o3 m3); have M4 := k_ (And.intro o4 m4)
      clear m1 o1 m2 o2 m3 o3 m4 o4 hy d1
      have hwi : wrap64 ((i : Int) + 1) = ((i + 1 : Nat) : Int) := by have h1 := SM.out.p5.1; have h2 := HD.out; unfold wrap64; omega
      have Y0 := k_ y0
      have Y1 := k_ y1
      have Y2 := k_ y2
      have Y3 := k_ y3
      have Y4 := k_ y4
      have Y5 := k_ y5
      have Y6 := k_ y6
      have Y7 := k_ y7
      have SMY := k_ (show SmTerm y by rw [HY.out]; exact SM.out.p5.2 _ (mem_getD x.f5 z35 i HD.out))
      have NY := k_ (show ndTerm y + 1 ≤ ndTerm x by rw [HY.out]; exact nd_arg x i HD.out)
      have NYk := k_ (show ndTerm y ≤ k by have := NK.out; have := NY.out; omega)
      have NYz := k_ (show ndTerm y + ndTerm z ≤ 1048578 by have := NN.out; have := NY.out; omega)
      by_cases kF : hasB (sfv z) x.f1 = true
      ·by_cases kY : hasB (sfv y) nm = true
       ·have HCF := k_ kF; have HCY := k_ kY
        clear kF kY
        have mkHF := True.intro; have mkHV := True.intro; have mktZ := True.intro; have mktY := True.intro
        obtain ⟨KY, hKY⟩ := (FreeVars_same y SMY.out (by have := NYz.out; have := nd_pos z; omega)).2
        have HFY := k_ (hKY KY (Nat.le_refl _))
        obtain ⟨KZ, hKZ⟩ := (FreeVars_same z SZ.out (by have := NYz.out; have := nd_pos y; omega)).2
        have HFZ := k_ (hKZ KZ (Nat.le_refl _))
        clear hKY hKZ
        have LFY := k_ (sfv_len y); have LFZ := k_ (sfv_len z)
        obtain ⟨tZ, h1_, h2_⟩ := idx_ev (sfv z) (by have := NYz.out; have := LFZ.out; have := LFY.out; omega) x.f1
        obtain ⟨KC, hK_⟩ := h1_
        have HKC := k_ (hK_ KC (Nat.le_refl _))
        clear hK_
        have tZ1 : decide (tZ ≥ 0) = true := decide_eq_true (by rw [HCF.out] at h2_; by_cases q : tZ < 0; (exact absurd (h2_.1 q) (by simp)); omega)
        clear h2_
        obtain ⟨tY, h1_, h2_⟩ := idx_ev (sfv y) (by have := NYz.out; have := LFZ.out; have := LFY.out; omega) nm
        obtain ⟨KD, hK_⟩ := h1_
        have HKD := k_ (hK_ KD (Nat.le_refl _))
        clear hK_
        have tY1 : decide (tY ≥ 0) = true := decide_eq_true (by rw [HCY.out] at h2_; by_cases q : tY < 0; (exact absurd (h2_.1 q) (by simp)); omega)
        clear h2_
        have HRB := k_ (show renB x nm z = true by rw [renB_at z KI.out K4.out, ← HY.out, HCF.out, HCY.out]; rfl)
        obtain ⟨n2, hn2⟩ : ∃ n, n = wc.heap.size := ⟨_, rfl⟩
        have LN2 := k_ (show n2 ≤ wc.heap.size by rw [hn2]; exact Nat.le_refl _)
        have N2_gx := k_ (limB hn2 HX.out)
        have N2_gy := k_ (limB hn2 HZ.out)
        have N2_gr := k_ (limB hn2 HR.out)
        have N2_HQ := k_ (limA hn2 HQ.out)
        have N2_gg := k_ (limB hn2 HG.out)
        clear hn2
        replace y0 := (HB.out.cell (World.block_lt_of_cell? w _ y0)).trans y0
        replace y1 := (HB.out.cell (World.block_lt_of_cell? w _ y1)).trans y1
        replace y2 := (HB.out.cell (World.block_lt_of_cell? w _ y2)).trans y2
        replace y3 := (HB.out.cell (World.block_lt_of_cell? w _ y3)).trans y3
        replace y4 := (HB.out.cell (World.block_lt_of_cell? w _ y4)).trans y4
        replace y5 := (HB.out.cell (World.block_lt_of_cell? w _ y5)).trans y5
        replace y6 := (HB.out.cell (World.block_lt_of_cell? w _ y6)).trans y6
        replace y7 := (HB.out.cell (World.block_lt_of_cell? w _ y7)).trans y7
        have HFL := k_ (show freshN (uni [] (sfv z ++ sfv y) ++ [nm]) = freshN (frL x nm z) by rw [HY.out]; exact frL_uni z KI.out)
        have LU := k_ (show (uni [] (sfv z ++ sfv y)).length ≤ (sfv z).length + (sfv y).length by have := uni_len (sfv z ++ sfv y) []; simpa using this)
        obtain ⟨lu, hlu⟩ : ∃ l, l = uni [] (sfv z ++ sfv y) := ⟨_, rfl⟩
        rw [← hlu] at LU
        obtain ⟨KU, hKU⟩ := spec_UniteNames_ev (sfv z) (sfv y) (by have := LFY.out; have := LFZ.out; have := NYz.out; omega)
        have HKU := k_ (show spec_UniteNames.f KU (sfv z) (sfv y) = some lu by rw [hlu]; exact hKU KU (Nat.le_refl _))
        have HFE := fresh_ev (lu ++ [nm]) (by have := LU.out; have := LFY.out; have := LFZ.out; have := NYz.out; simp only [List.length_append, List.length_cons, List.length_nil]; omega)
        rw [← hlu] at HFL
        obtain ⟨fr, hfr⟩ : ∃ s_, s_ = freshN (frL x nm z) := ⟨_, rfl⟩
        rw [HFL.out, ← hfr] at HFE
        have HFR := k_ hfr
        obtain ⟨KR, hKR⟩ := HFE.1
        have HKR := k_ (hKR KR (Nat.le_refl _)); have HFS := k_ (show fr.size ≤ 1048576 by have := HFE.2.2; omega)
        clear hKU hKR HFE hfr hlu
        have r1351 := blk8 HX.out
        go_wp2_with (first | (go_at_call 16; clear mkHF; refine (spec_FreeVars.calls KY y.f0 y.f1 y.f2 y.f3.f0 _ _ y.f3.f1 _ _ y.f3.f2 _ _ y.f4 _ _ y.f5 (sfv y) _ (Kd.C_below M1.out.1 HB.out) M1.out.2 (Kd.C_below M2.out.1 HB.out) M2.out.2 (Kd.C_below M3.out.1 HB.out) M3.out.2 (Kd.C_below M4.out.1 HB.out) M4.out.2 HFY.out).mono ?_; have h2_ := k_ (show n2 ≤ wc.heap.size from LN2.out); rintro e w10 ⟨v_, rfl, ho, hb⟩; obtain ⟨AHF, cHF, rfl⟩ := Kd.R_slice ho; have HF1 := k_ (R_from (n := n2) ho h2_.out (below_size HB.out)); replace HX := k_ (blk_below HX.out hb); replace HZ := k_ (blk_below HZ.out hb); replace HR := k_ (blk_below HR.out hb); replace HB := k_ (below_step HB.out hb); replace LN := k_ (Nat.le_trans LN.out (below_size hb)); replace HQ := k_ (Apt_below HQ.out hb); replace HG := k_ (blk_below HG.out hb); replace LN2 := k_ (Nat.le_trans LN2.out (below_size hb)); have HF := HF1; clear HF1 ho hb h2_; clear y0 y1 y2 y3 y4 y5 y6 y7; have r1401 := blk8 HZ.out) | (go_at_call 16; clear mkHV; refine (spec_FreeVars.calls KZ z.f0 z.f1 z.f2 z.f3.f0 _ _ z.f3.f1 _ _ z.f3.f2 _ _ z.f4 _ _ z.f5 (sfv z) _ (Kd.C_below Z1.out.1 HB.out) Z1.out.2 (Kd.C_below Z2.out.1 HB.out) Z2.out.2 (Kd.C_below Z3.out.1 HB.out) Z3.out.2 (Kd.C_below Z4.out.1 HB.out) Z4.out.2 HFZ.out).mono ?_; have h2_ := k_ (show n2 ≤ w10.heap.size from LN2.out); rintro e w11 ⟨v_, rfl, ho, hb⟩; obtain ⟨AHV, cHV, rfl⟩ := Kd.R_slice ho; have HV1 := k_ (R_from (n := n2) ho h2_.out (below_size HB.out)); replace HX := k_ (blk_below HX.out hb); replace HZ := k_ (blk_below HZ.out hb); replace HR := k_ (blk_below HR.out hb); replace HB := k_ (below_step HB.out hb); replace LN := k_ (Nat.le_trans LN.out (below_size hb)); replace HQ := k_ (Apt_below HQ.out hb); replace HG := k_ (blk_below HG.out hb); replace LN2 := k_ (Nat.le_trans LN2.out (below_size hb)); replace HF := k_ (Kd.R_below HF.out hb); have HV := HV1; clear HV1 ho hb h2_; have r1402 := blk8 HX.out) | (go_at_call 17; clear mktZ; refine (spec_IndexOf.calls KC _ _ (sfv z) x.f1 tZ _ (Kd.R_reads' HV.out).2.2 (Kd.R_reads' HV.out).2.1 HKC.out).mono ?_; rintro e w12 ⟨rfl, hd⟩; have hb := Drawn0.below hd; replace HX := k_ (blk_below HX.out hb); replace HZ := k_ (blk_below HZ.out hb); replace HR := k_ (blk_below HR.out hb); replace HB := k_ (below_step HB.out hb); replace LN := k_ (Nat.le_trans LN.out (below_size hb)); replace HQ := k_ (Apt_below HQ.out hb); replace HG := k_ (blk_below HG.out hb); replace LN2 := k_ (Nat.le_trans LN2.out (below_size hb)); replace HF := k_ (Kd.R_below HF.out hb); replace HV := k_ (Kd.R_below HV.out hb); clear hb hd) | (go_at_call 17; clear mktY; refine (spec_IndexOf.calls KD _ _ (sfv y) nm tY _ (Kd.R_reads' HF.out).2.2 (Kd.R_reads' HF.out).2.1 HKD.out).mono ?_; rintro e w13 ⟨rfl, hd⟩; have hb := Drawn0.below hd; replace HX := k_ (blk_below HX.out hb); replace HZ := k_ (blk_below HZ.out hb); replace HR := k_ (blk_below HR.out hb); replace HB := k_ (below_step HB.out hb); replace LN := k_ (Nat.le_trans LN.out (below_size hb)); replace HQ := k_ (Apt_below HQ.out hb); replace HG := k_ (blk_below HG.out hb); replace LN2 := k_ (Nat.le_trans LN2.out (below_size hb)); replace HF := k_ (Kd.R_below HF.out hb); replace HV := k_ (Kd.R_below HV.out hb); clear hb hd) | (go_at_call 19; refine (spec_UniteNames.calls KU _ _ (sfv z) _ _ (sfv y) lu _ (Kd.R_reads' HV.out).2.2 (Kd.R_reads' HV.out).2.1 (Kd.R_reads' HF.out).2.2 (Kd.R_reads' HF.out).2.1 HKU.out).mono ?_; have h2_ := k_ (show n2 ≤ w13.heap.size from LN2.out); rintro e w14 ⟨v_, rfl, ho, hb⟩; obtain ⟨AHU, cHU, rfl⟩ := Kd.R_slice ho; have HU1 := k_ (R_from (n := n2) ho h2_.out (below_size HB.out)); clear HV HF; replace HX := k_ (blk_below HX.out hb); replace HZ := k_ (blk_below HZ.out hb); replace HR := k_ (blk_below HR.out hb); replace HB := k_ (below_step HB.out hb); replace LN := k_ (Nat.le_trans LN.out (below_size hb)); replace HQ := k_ (Apt_below HQ.out hb); replace HG := k_ (blk_below HG.out hb); replace LN2 := k_ (Nat.le_trans LN2.out (below_size hb)); have HU := HU1; clear HU1 ho hb h2_) | ((with_reducible refine gate_builtin (b := .append) (xs := #[.tmp 56, .tmp 58]) rfl ?_); at_builtin; refine Kd.R_append Kd.string (w0 := w) w.heap.size rfl (.tmp 56) (.tmp 58) 22 9 (.string ⟨#[]⟩) 16 rfl Tryd.underlying22 info9 rfl (by decide) (by omega) (.slice AHU lu.length cHU) lu nm [.string nm] (fun k_ => n2 ≤ k_) (fun _ => False) rfl rfl ?aP (fun _ hk => hk.elim) ?aF ?aO ?aB ?aS ?aL ?_; (case aP => exact rfl); (case aB => exact HB.out); (case aF => exact (fun k_ h_ => Nat.le_trans LN2.out h_)); (case aO => exact HU.out); (case aS => exact below_size HB.out); (case aL => have := LU.out; have := LFY.out; have := LFZ.out; have := NYz.out; omega); intro v2 w15 ho hb1 hg hat; replace HX := k_ (blk_grown HX.out hg (fun he => absurd (HU.out.1 _ he.symm) (by have := N2_gx.out; omega))); replace HZ := k_ (blk_grown HZ.out hg (fun he => absurd (HU.out.1 _ he.symm) (by have := N2_gy.out; omega))); replace HR := k_ (blk_grown HR.out hg (fun he => absurd (HU.out.1 _ he.symm) (by have := N2_gr.out; omega))); replace HB := k_ (hb1); replace LN := k_ (Nat.le_trans LN.out hg.size); replace HQ := k_ (Apt_grown HQ.out hg (fun b hb_ he => absurd (HU.out.1 b he.symm) (by have := N2_HQ.out b hb_; omega))); replace HG := k_ (blk_grown HG.out hg (fun he => absurd (HU.out.1 _ he.symm) (by have := N2_gg.out; omega))); replace LN2 := k_ (Nat.le_trans LN2.out hg.size); clear HU; obtain ⟨l2_, hl2⟩ : ∃ l, l = lu ++ [nm] := ⟨_, rfl⟩; rw [← hl2] at ho; have HL2 := k_ hl2; clear hl2; obtain ⟨Av2, cv2, rfl⟩ := Kd.R_slice ho; have HV := k_ ho; clear ho hb1 hg hat) | (go_at_call 18; refine (spec_FreshVar.calls KR _ _ l2_ fr _ (Kd.R_reads' HV.out).2.2 (Kd.R_reads' HV.out).2.1 (by rw [HL2.out]; exact HKR.out)).mono ?_; rintro e w16 ⟨rfl, hb⟩; clear HV; replace HX := k_ (blk_below HX.out hb); replace HZ := k_ (blk_below HZ.out hb); replace HR := k_ (blk_below HR.out hb); replace HB := k_ (below_step HB.out hb); replace LN := k_ (Nat.le_trans LN.out (below_size hb)); replace HQ := k_ (Apt_below HQ.out hb); replace HG := k_ (blk_below HG.out hb); replace LN2 := k_ (Nat.le_trans LN2.out (below_size hb)); clear hb) | ((with_reducible refine gate_store (t := 9) (p := 61) rfl ?_); have r1403 := blk8 HG.out; have z1404 := blf8 HG.out; refine store_event (t := 9) (p := 61) (v := ?vo_1405) (w1 := w16.setCells gg 1 [.string fr]) ?hg ?ho ?hn ?hr ?_; (case ho => rfl); (case hg => rfl); (case hn => rfl); (case hr => first | (go_simp; done) | (go_simp; rfl)); intro w17 hw; replace HX := k_ (bfw hw HX.out N_gx_gg.out); replace HZ := k_ (bfw hw HZ.out N_gy_gg.out); replace HR := k_ (bfw hw HR.out N_gr_gg.out); replace HB := k_ (bew hw HB.out G_gg.out); replace LN := k_ (siw hw LN.out); replace HQ := k_ (apw hw HQ.out D_HQ_gg.out); replace HG := k_ (show w17.heap[gg]? = some (.cells #[.int .i64 x.f0, .string fr, .int .i64 x.f2, .int .i64 x.f3.f0, .slice P1 x.f3.f1.length q1, .slice P2 x.f3.f2.length q2, .slice Ao x.f4.length co, .slice Q4 x.f5.length cq4] 35 (0, 0)) from bsw hw HG.out (by simp only [putA, sP, Nat.zero_add, Nat.reduceAdd])); clear hw))
        clear LN2
        obtain ⟨ca, cc, cb, rfl, hca, hTa, hTc, hTb⟩ := TeES_split x.f5 cs0 i HE0.out HD.out
        have HTA := k_ hTa; have HTB := k_ hTb; have HCA := k_ hca
        obtain ⟨gq, capq, hv, hgq1, hgq2, hgq3, hgq4⟩ := row_at HQ.out (by rw [TeE_len hTc]; decide) (fun h0 => absurd HD.out (by omega))
        obtain ⟨F1, cf1, F2, cf2, F3, cf3, F4, cf4, uf, df, rfl, huf, hdf⟩ := TeE_open hTc (row_part HQ.out)
        injection hv with hv1 _ hv3
        subst hv1
        subst hv3
        have N_gx_gq := k_ (show gx ≠ gq from Ne.symm (D_HQ_gx.out gq (own_tail rfl))); have N_gy_gq := k_ (show gy ≠ gq from Ne.symm (D_HQ_gy.out gq (own_tail rfl))); have N_gr_gq := k_ (show gr ≠ gq from Ne.symm (D_HQ_gr.out gq (own_tail rfl))); have N_gg_gq := k_ (show gg ≠ gq from Ne.symm (O_gg.out gq rfl)); have G_gq := k_ (show w.heap.size ≤ gq from Nat.le_trans L_w.out hgq1)
        clear hTa hTb hTc hca hgq1 hgq2 hgq3 hgq4 huf hdf
        have HLEN := k_ (show True from trivial)
        replace HX := k_ (blk_drew HX.out)
        replace HZ := k_ (blk_drew HZ.out)
        replace HR := k_ (blk_drew HR.out)
        replace HB := k_ (below_drew1 HB.out)
        replace LN := k_ (show n1 ≤ w17.drew.heap.size from LN.out)
        replace HQ := k_ (Apt_below HQ.out (below_drew1 (Below.refl _ _)))
        replace HG := k_ (blk_drew HG.out)
        refine start_ (n := 16) (S := fun w' => (w'.heap[gg]? = some (.cells #[.int .i64 x.f0, .string fr, .int .i64 x.f2, .int .i64 x.f3.f0, .slice P1 x.f3.f1.length q1, .slice P2 x.f3.f2.length q2, .slice Ao x.f4.length co, .slice (some ⟨gq, 0, none⟩) x.f5.length cq4] 35 (0, 0))) ∧ (w'.heap[gx]? = some (.cells #[.int .i64 x.f0, .string x.f1, .int .i64 x.f2, .int .i64 x.f3.f0, .slice A1 x.f3.f1.length c1, .slice A2 x.f3.f2.length c2, .slice A3 x.f4.length c3, .slice (some ad) x.f5.length c4] 35 (0, 0))) ∧ w'.cell? (ad.add (i * 8)) = some (.int .i64 y.f0) ∧ w'.cell? ⟨(ad.add (i * 8)).block, (ad.add (i * 8)).off + 1, none⟩ = some (.string y.f1) ∧ w'.cell? ⟨(ad.add (i * 8)).block, (ad.add (i * 8)).off + 2, none⟩ = some (.int .i64 y.f2) ∧ w'.cell? ⟨(ad.add (i * 8)).block, (ad.add (i * 8)).off + 3, none⟩ = some (.int .i64 y.f3.f0) ∧ w'.cell? ⟨(ad.add (i * 8)).block, (ad.add (i * 8)).off + 4, none⟩ = some (.slice B1 y.f3.f1.length e1) ∧ w'.cell? ⟨(ad.add (i * 8)).block, (ad.add (i * 8)).off + 5, none⟩ = some (.slice B2 y.f3.f2.length e2) ∧ w'.cell? ⟨(ad.add (i * 8)).block, (ad.add (i * 8)).off + 6, none⟩ = some (.slice B3 y.f4.length e3) ∧ w'.cell? ⟨(ad.add (i * 8)).block, (ad.add (i * 8)).off + 7, none⟩ = some (.slice B4 y.f5.length e4)) (ds := [15]) mSubS0 (by kernel_rfl) rfl rfl ⟨HG.out, HX.out, pw_cell_below HB.out Y0.out, pw_cell_below HB.out Y1.out, pw_cell_below HB.out Y2.out, pw_cell_below HB.out Y3.out, pw_cell_below HB.out Y4.out, pw_cell_below HB.out Y5.out, pw_cell_below HB.out Y6.out, pw_cell_below HB.out Y7.out⟩ (fun hHeld => ?_); refine with_tabW tabR.tab10 tabR.bits10 (fun HT_ HW_ => ?_)
        generalize w17.drew = w18 at HX HZ HR HB LN HQ HG hHeld ⊢
        refine pure_ (i := 0) (N := some 62) (v := ?_) (a' := ?_) mSubS1 rfl rfl (any_of HT_.out (by kernel_rfl)) (fun _ _ _ h => h) (Or.inl ⟨by rfl, ?_⟩) ?_ ?_
        rotate_left
        ·intro w'
         go_simp
         try with_reducible rfl
        rotate_left
        ·simp only [Act.put, sP]
         rfl
        refine pure_ (i := 2) (N := some 64) (v := ?_) (a' := ?_) mSubS2 rfl rfl (any_of HT_.out (by kernel_rfl)) (fun _ _ _ h => h) (Or.inl ⟨by rfl, ?_⟩) ?_ ?_
        rotate_left
        ·intro w'
         go_simp
         try with_reducible rfl
        rotate_left
        ·simp only [Act.put, sP]
         rfl
        refine pure_ (i := 3) (N := some 65) (v := ?_) (a' := ?_) mSubS3 rfl rfl (any_of HT_.out (by kernel_rfl)) (fun _ _ _ h => h) (Or.inl ⟨by rfl, ?_⟩) ?_ ?_
        rotate_left
        ·intro w'
         go_simp
         try with_reducible rfl
        rotate_left
        ·simp only [Act.put, sP]
         rfl
        refine pure_ (i := 5) (N := some 67) (v := ?_) (a' := ?_) mSubS4 rfl rfl (any_of HT_.out (by kernel_rfl)) (fun _ _ _ h => h) (Or.inl ⟨by rfl, ?_⟩) ?_ ?_
        rotate_left
        ·intro w'
         go_simp
         try with_reducible rfl
        rotate_left
        ·simp only [Act.put, sP]
         rfl
        refine pure_ (i := 8) (N := some 70) (v := ?_) (a' := ?_) mSubS5 rfl rfl (any_of HT_.out (by kernel_rfl)) (fun _ _ _ h => h) (Or.inl ⟨by rfl, ?_⟩) ?_ ?_
        rotate_left
        ·intro w'
         go_simp
         try with_reducible rfl
        rotate_left
        ·simp only [Act.put, sP]
         rfl
        refine pure_ (i := 10) (N := some 72) (v := ?_) (a' := ?_) mSubS6 rfl rfl (any_of HT_.out (by kernel_rfl)) (fun _ _ _ h => h) (Or.inl ⟨by rfl, ?_⟩) ?_ ?_
        rotate_left
        ·intro w'
         go_simp
         try with_reducible rfl
        rotate_left
        ·simp only [Act.put, sP]
         rfl
        refine take_ (i := 1) (N := some 63) (v := ?_) (a' := ?_) mSubS7 rfl rfl (take_ofW HT_.out HW_.out (by kernel_rfl)) (fun _ _ _ h => h) (Or.inl ⟨by rfl, ?_⟩) hHeld ?_ ?_
        rotate_left
        ·rintro w' ⟨s0, s1, s2, s3, s4, s5, s6, s7, s8, s9⟩
         have q0 := blk8 s0
         have q1 := blk8 s1
         go_simp
         with_reducible rfl
        rotate_left
        ·simp only [Act.put, sP]
         rfl
        refine take_ (i := 4) (N := some 66) (v := ?_) (a' := ?_) mSubS8 rfl rfl (take_ofW HT_.out HW_.out (by kernel_rfl)) (fun _ _ _ h => h) (Or.inl ⟨by rfl, ?_⟩) hHeld ?_ ?_
        rotate_left
        ·rintro w' ⟨s0, s1, s2, s3, s4, s5, s6, s7, s8, s9⟩
         have q0 := blk8 s0
         have q1 := blk8 s1
         go_simp
         with_reducible rfl
        rotate_left
        ·simp only [Act.put, sP]
         rfl
        refine take_ (i := 9) (N := some 71) (v := ?_) (a' := ?_) mSubS9 rfl rfl (take_ofW HT_.out HW_.out (by kernel_rfl)) (fun _ _ _ h => h) (Or.inl ⟨by rfl, ?_⟩) hHeld ?_ ?_
        rotate_left
        ·rintro w' ⟨s0, s1, s2, s3, s4, s5, s6, s7, s8, s9⟩
         have q0 := blk8 s0
         have q1 := blk8 s1
         go_simp
         with_reducible rfl
        rotate_left
        ·simp only [Act.put, sP]
         rfl
        refine take_ (i := 11) (N := some 73) (v := ?_) (a' := ?_) mSubS10 rfl rfl (take_ofW HT_.out HW_.out (by kernel_rfl)) (fun _ _ _ h => h) (Or.inl ⟨by rfl, ?_⟩) hHeld ?_ ?_
        rotate_left
        ·rintro w' ⟨s0, s1, s2, s3, s4, s5, s6, s7, s8, s9⟩
         have q0 := blk8 s0
         have q1 := blk8 s1
         go_simp
         with_reducible rfl
        rotate_left
        ·simp only [Act.put, sP]
         rfl
        refine pure_ (i := 6) (N := some 68) (v := ?_) (a' := ?_) mSubS11 rfl rfl (any_of HT_.out (by kernel_rfl)) (fun _ _ _ h => h) (Or.inl ⟨by rfl, ?_⟩) ?_ ?_
        rotate_left
        ·intro w'
         go_simp
         try with_reducible rfl
        rotate_left
        ·simp only [Act.put, sP]
         rfl
        refine take_ (i := 7) (N := some 69) (v := ?_) (a' := ?_) mSubS12 rfl rfl (take_ofW HT_.out HW_.out (by kernel_rfl)) (fun _ _ _ h => h) (Or.inl ⟨by rfl, ?_⟩) hHeld ?_ ?_
        rotate_left
        ·rintro w' ⟨s0, s1, s2, s3, s4, s5, s6, s7, s8, s9⟩
         have q0 := blk8 s0
         have q1 := blk8 s1
         go_simp
         with_reducible rfl
        rotate_left
        ·simp only [Act.put, sP]
         rfl
        refine one_ (i := 12) (N := some 74) mSubS13 rfl rfl (one_of HT_.out (by kernel_rfl)) (by decide) (fun K hK => ?_)
        refine goes_ Tryd.func20 (by kernel_rfl) rfl #[.string fr] (by rfl) rfl rfl (by (try simp only [List.map_toArray, List.map_cons, List.map_nil]); first | done | rfl) ?_
        refine (spec_l7Var.calls fr 1 fr 0 0 [] [] [] [] _ (by rfl)).mono ?_
        rintro e w19 ⟨v4, v5, v6, v7, rfl, o4, o5, o6, o7, hb⟩
        obtain ⟨a4, b4, rfl⟩ := Kd.R_slice o4
        obtain ⟨a5, b5, rfl⟩ := Kd.R_slice o5
        obtain ⟨a6, b6, rfl⟩ := Kd.R_slice o6
        obtain ⟨a7, b7, rfl⟩ := Kd.R_slice o7
        refine ⟨.agg #[.int .i64 1, .string fr, .int .i64 0, .int .i64 0, .slice a4 ([] : List ByteArray).length b4, .slice a5 ([] : List S32).length b5, .slice a6 ([] : List ByteArray).length b6, .slice a7 ([] : List S35).length b7], rfl, ?_⟩
        have V1 := k_ (And.intro (Kd.R_reads' o4).2.2 (Kd.R_reads' o4).2.1)
        have V2 := k_ (And.intro (Kd.R_reads' o5).2.2 (Kd.R_reads' o5).2.1)
        have V3 := k_ (And.intro (Kd.R_reads' o6).2.2 (Kd.R_reads' o6).2.1)
        have V4 := k_ (And.intro (Kd.R_reads' o7).2.2 (Kd.R_reads' o7).2.1)
        replace HX := k_ (blk_below HX.out hb)
        replace HZ := k_ (blk_below HZ.out hb)
        replace HR := k_ (blk_below HR.out hb)
        replace HB := k_ (below_step HB.out hb)
        replace LN := k_ (Nat.le_trans LN.out (below_size hb))
        replace HQ := k_ (Apt_below HQ.out hb)
        replace HG := k_ (blk_below HG.out hb)
        clear o4 o5 o6 o7 hb
        refine hK.out _ _ ⟨HG.out, HX.out, pw_cell_below HB.out Y0.out, pw_cell_below HB.out Y1.out, pw_cell_below HB.out Y2.out, pw_cell_below HB.out Y3.out, pw_cell_below HB.out Y4.out, pw_cell_below HB.out Y5.out, pw_cell_below HB.out Y6.out, pw_cell_below HB.out Y7.out⟩ (fun hHeld => ?_)
        clear hK K
        refine norm_ (a' := ?_) ?_ ?_
        rotate_left
        ·show Act.put _ (some 74) _ = _
         simp only [Act.put, sP]
         rfl
        refine one_ (i := 13) (N := some 75) mSubS14 rfl rfl (one_of HT_.out (by kernel_rfl)) (by decide) (fun K hK => ?_)
        have HM := k_ (Apt_lt HQ.out)
        have HW0 := k_ (show n1 ≤ w19.heap.size from LN.out)
        refine goes_ Tryd.func5 (by kernel_rfl) rfl #[.agg #[.int .i64 y.f0, .string y.f1, .int .i64 y.f2, .int .i64 y.f3.f0, .slice B1 y.f3.f1.length e1, .slice B2 y.f3.f2.length e2, .slice B3 y.f4.length e3, .slice B4 y.f5.length e4], .string x.f1, .agg #[.int .i64 1, .string fr, .int .i64 0, .int .i64 0, .slice a4 ([] : List ByteArray).length b4, .slice a5 ([] : List S32).length b5, .slice a6 ([] : List ByteArray).length b6, .slice a7 ([] : List S35).length b7]] (by rfl) rfl rfl (by (try simp only [List.map_toArray, List.map_cons, List.map_nil]); first | done | rfl) ?_
        refine (IH.out y x.f1 (varT fr) SMY.out (sm_varT fr HFS.out) NYk.out (by rw [nd_varT]; have := NYz.out; have := nd_pos z; omega) B1 e1 B2 e2 B3 e3 B4 e4 a4 b4 a5 b5 a6 b6 a7 b7 _ ⟨Kd.C_below M1.out.1 HB.out, M1.out.2⟩ ⟨Kd.C_below M2.out.1 HB.out, M2.out.2⟩ ⟨Kd.C_below M3.out.1 HB.out, M3.out.2⟩ ⟨Kd.C_below M4.out.1 HB.out, M4.out.2⟩ V1.out V2.out V3.out V4.out).mono ?_
        rintro e w20 ⟨hs, rfl, hE, hA, hb⟩
        obtain ⟨t, ht_⟩ : ∃ t_, t_ = subF k y x.f1 (varT fr) := ⟨_, rfl⟩
        rw [← ht_] at hE
        have HT_E := k_ ht_
        clear ht_
        obtain ⟨Q1, cq1, Q2, cq2, Q3, cq3, Q4, cqt, us', ds, rfl, hus', hds⟩ := TeE_open hE hA
        refine ⟨.agg #[.int .i64 t.f0, .string t.f1, .int .i64 t.f2, .int .i64 t.f3.f0, .slice Q1 t.f3.f1.length cq1, .slice Q2 t.f3.f2.length cq2, .slice Q3 t.f4.length cq3, .slice Q4 t.f5.length cqt], rfl, ?_⟩
        replace HX := k_ (blk_below HX.out hb)
        replace HZ := k_ (blk_below HZ.out hb)
        replace HR := k_ (blk_below HR.out hb)
        replace HB := k_ (below_step HB.out hb)
        replace LN := k_ (Nat.le_trans LN.out (below_size hb))
        replace HQ := k_ (Apt_below HQ.out hb)
        replace HG := k_ (blk_below HG.out hb)
        have HH := k_ hA; have HEy := k_ hE
        clear hA hE hds hus' hb V1 V2 V3 V4
        refine hK.out _ _ ⟨HG.out, HX.out, pw_cell_below HB.out Y0.out, pw_cell_below HB.out Y1.out, pw_cell_below HB.out Y2.out, pw_cell_below HB.out Y3.out, pw_cell_below HB.out Y4.out, pw_cell_below HB.out Y5.out, pw_cell_below HB.out Y6.out, pw_cell_below HB.out Y7.out⟩ (fun hHeld => ?_)
        clear hK K
        refine norm_ (a' := ?_) ?_ ?_
        rotate_left
        ·show Act.put _ (some 75) _ = _
         simp only [Act.put, sP]
         rfl
        refine pure_ (i := 14) (N := some 76) (v := ?_) (a' := ?_) mSubS15 rfl rfl (any_of HT_.out (by kernel_rfl)) (fun _ _ _ h => h) (Or.inl ⟨by rfl, ?_⟩) ?_ ?_
        rotate_left
        ·intro w'
         go_simp
         try with_reducible rfl
        rotate_left
        ·simp only [Act.put, sP]
         rfl
        refine last_ (i := 15) (N := none) mSubS16 rfl rfl (one_of HT_.out (by kernel_rfl)) (by decide) (fun K hK => ?_)
        have r1406 := row_cell HQ.out HCA.out 0 rfl
        have z1406 := row_frozen HQ.out (i * 8)
        have r1407 := row_cell HQ.out HCA.out 1 rfl
        have z1407 := row_frozen HQ.out (i * 8 + 1)
        have r1408 := row_cell HQ.out HCA.out 2 rfl
        have z1408 := row_frozen HQ.out (i * 8 + 2)
        have r1409 := row_cell HQ.out HCA.out 3 rfl
        have z1409 := row_frozen HQ.out (i * 8 + 3)
        have r1410 := row_cell HQ.out HCA.out 4 rfl
        have z1410 := row_frozen HQ.out (i * 8 + 4)
        have r1411 := row_cell HQ.out HCA.out 5 rfl
        have z1411 := row_frozen HQ.out (i * 8 + 5)
        have r1412 := row_cell HQ.out HCA.out 6 rfl
        have z1412 := row_frozen HQ.out (i * 8 + 6)
        have r1413 := row_cell HQ.out HCA.out 7 rfl
        have z1413 := row_frozen HQ.out (i * 8 + 7)
        dsimp only [Nat.add_zero] at r1406
        refine skip_ (w1 := w20.setCells gq (i * 8) [.int .i64 t.f0, .string t.f1, .int .i64 t.f2, .int .i64 t.f3.f0, .slice Q1 t.f3.f1.length cq1, .slice Q2 t.f3.f2.length cq2, .slice Q3 t.f4.length cq3, .slice Q4 t.f5.length cqt]) (by rfl) rfl (by go_simp; rfl) ?_
        obtain ⟨w21, hw⟩ : ∃ w_, w_ = w20.setCells gq (i * 8) [.int .i64 t.f0, .string t.f1, .int .i64 t.f2, .int .i64 t.f3.f0, .slice Q1 t.f3.f1.length cq1, .slice Q2 t.f3.f2.length cq2, .slice Q3 t.f4.length cq3, .slice Q4 t.f5.length cqt] := ⟨_, rfl⟩
        rw [← hw]
        replace HX := k_ (bfw hw HX.out N_gx_gq.out)
        replace HZ := k_ (bfw hw HZ.out N_gy_gq.out)
        replace HR := k_ (bfw hw HR.out N_gr_gq.out)
        replace HB := k_ (bew hw HB.out G_gq.out)
        replace LN := k_ (siw hw LN.out)
        replace HQ := k_ (show Apt w21 n1 ([.lf (.int .i64 x.f3.f0), strR (.slice P1 x.f3.f1.length q1) x.f3.f1, .row 32 3 x.f3.f2.length (.slice P2 x.f3.f2.length q2) us, strR (.slice Ao x.f4.length co) x.f4] ++ [HT.row 35 8 x.f5.length (.slice (some ⟨gq, 0, none⟩) x.f5.length cq4) (ca ++ [.lf (.int .i64 t.f0), .lf (.string t.f1), .lf (.int .i64 t.f2), .lf (.int .i64 t.f3.f0), strR (.slice Q1 t.f3.f1.length cq1) t.f3.f1, .row 32 3 t.f3.f2.length (.slice Q2 t.f3.f2.length cq2) us', strR (.slice Q3 t.f4.length cq3) t.f4, .row 35 8 t.f5.length (.slice Q4 t.f5.length cqt) ds] ++ cb)]) by rw [hw]; exact row_put HQ.out HH.out HM.out HW0.out rfl HCA.out)
        replace HG := k_ (bfw hw HG.out N_gg_gq.out)
        clear hw
        refine hK.out _ _ ?_
        clear hK K
        refine done_ (done_of HT_.out (by kernel_rfl)) ?_
        clear HT_ HW_
        clear hHeld
        try go_wp2
        go_meet
        case rel => exact ⟨fr, _, _, ⟨by rw [newN_ren HRB.out]; exact HFR.out⟩, ⟨by have h_ := Row_ren (subF k) KI.out HRB.out HD.out; rw [← HY.out, ← HFR.out, ← HT_E.out] at h_; exact h_⟩, ⟨TeES_put HD.out HTA.out HEy.out HTB.out⟩, HX, HZ, HR, HG, HQ, LN, HB⟩
       ·replace kY : hasB (sfv y) nm = false := by simpa using kY
        have HCF := k_ kF; have HCY := k_ kY
        clear kF kY
        have mkHF := True.intro; have mkHV := True.intro; have mktZ := True.intro; have mktY := True.intro
        obtain ⟨KY, hKY⟩ := (FreeVars_same y SMY.out (by have := NYz.out; have := nd_pos z; omega)).2
        have HFY := k_ (hKY KY (Nat.le_refl _))
        obtain ⟨KZ, hKZ⟩ := (FreeVars_same z SZ.out (by have := NYz.out; have := nd_pos y; omega)).2
        have HFZ := k_ (hKZ KZ (Nat.le_refl _))
        clear hKY hKZ
        have LFY := k_ (sfv_len y); have LFZ := k_ (sfv_len z)
        obtain ⟨tZ, h1_, h2_⟩ := idx_ev (sfv z) (by have := NYz.out; have := LFZ.out; have := LFY.out; omega) x.f1
        obtain ⟨KC, hK_⟩ := h1_
        have HKC := k_ (hK_ KC (Nat.le_refl _))
        clear hK_
        have tZ1 : decide (tZ ≥ 0) = true := decide_eq_true (by rw [HCF.out] at h2_; by_cases q : tZ < 0; (exact absurd (h2_.1 q) (by simp)); omega)
        clear h2_
        obtain ⟨tY, h1_, h2_⟩ := idx_ev (sfv y) (by have := NYz.out; have := LFZ.out; have := LFY.out; omega) nm
        obtain ⟨KD, hK_⟩ := h1_
        have HKD := k_ (hK_ KD (Nat.le_refl _))
        clear hK_
        have tY1 : decide (tY ≥ 0) = false := decide_eq_false (by rw [HCY.out] at h2_; have := h2_.2 rfl; omega)
        clear h2_
        have HRB := k_ (show renB x nm z = false by rw [renB_at z KI.out K4.out, ← HY.out, HCF.out, HCY.out]; rfl)
        obtain ⟨n2, hn2⟩ : ∃ n, n = wc.heap.size := ⟨_, rfl⟩
        have LN2 := k_ (show n2 ≤ wc.heap.size by rw [hn2]; exact Nat.le_refl _)
        have N2_gx := k_ (limB hn2 HX.out)
        have N2_gy := k_ (limB hn2 HZ.out)
        have N2_gr := k_ (limB hn2 HR.out)
        have N2_HQ := k_ (limA hn2 HQ.out)
        have N2_gg := k_ (limB hn2 HG.out)
        clear hn2
        replace y0 := (HB.out.cell (World.block_lt_of_cell? w _ y0)).trans y0
        replace y1 := (HB.out.cell (World.block_lt_of_cell? w _ y1)).trans y1
        replace y2 := (HB.out.cell (World.block_lt_of_cell? w _ y2)).trans y2
        replace y3 := (HB.out.cell (World.block_lt_of_cell? w _ y3)).trans y3
        replace y4 := (HB.out.cell (World.block_lt_of_cell? w _ y4)).trans y4
        replace y5 := (HB.out.cell (World.block_lt_of_cell? w _ y5)).trans y5
        replace y6 := (HB.out.cell (World.block_lt_of_cell? w _ y6)).trans y6
        replace y7 := (HB.out.cell (World.block_lt_of_cell? w _ y7)).trans y7
        have r1351 := blk8 HX.out
        go_wp2_with (first | (go_at_call 16; clear mkHF; refine (spec_FreeVars.calls KY y.f0 y.f1 y.f2 y.f3.f0 _ _ y.f3.f1 _ _ y.f3.f2 _ _ y.f4 _ _ y.f5 (sfv y) _ (Kd.C_below M1.out.1 HB.out) M1.out.2 (Kd.C_below M2.out.1 HB.out) M2.out.2 (Kd.C_below M3.out.1 HB.out) M3.out.2 (Kd.C_below M4.out.1 HB.out) M4.out.2 HFY.out).mono ?_; have h2_ := k_ (show n2 ≤ wc.heap.size from LN2.out); rintro e w10 ⟨v_, rfl, ho, hb⟩; obtain ⟨AHF, cHF, rfl⟩ := Kd.R_slice ho; have HF1 := k_ (R_from (n := n2) ho h2_.out (below_size HB.out)); replace HX := k_ (blk_below HX.out hb); replace HZ := k_ (blk_below HZ.out hb); replace HR := k_ (blk_below HR.out hb); replace HB := k_ (below_step HB.out hb); replace LN := k_ (Nat.le_trans LN.out (below_size hb)); replace HQ := k_ (Apt_below HQ.out hb); replace HG := k_ (blk_below HG.out hb); replace LN2 := k_ (Nat.le_trans LN2.out (below_size hb)); have HF := HF1; clear HF1 ho hb h2_; clear y0 y1 y2 y3 y4 y5 y6 y7; have r1401 := blk8 HZ.out) | (go_at_call 16; clear mkHV; refine (spec_FreeVars.calls KZ z.f0 z.f1 z.f2 z.f3.f0 _ _ z.f3.f1 _ _ z.f3.f2 _ _ z.f4 _ _ z.f5 (sfv z) _ (Kd.C_below Z1.out.1 HB.out) Z1.out.2 (Kd.C_below Z2.out.1 HB.out) Z2.out.2 (Kd.C_below Z3.out.1 HB.out) Z3.out.2 (Kd.C_below Z4.out.1 HB.out) Z4.out.2 HFZ.out).mono ?_; have h2_ := k_ (show n2 ≤ w10.heap.size from LN2.out); rintro e w11 ⟨v_, rfl, ho, hb⟩; obtain ⟨AHV, cHV, rfl⟩ := Kd.R_slice ho; have HV1 := k_ (R_from (n := n2) ho h2_.out (below_size HB.out)); replace HX := k_ (blk_below HX.out hb); replace HZ := k_ (blk_below HZ.out hb); replace HR := k_ (blk_below HR.out hb); replace HB := k_ (below_step HB.out hb); replace LN := k_ (Nat.le_trans LN.out (below_size hb)); replace HQ := k_ (Apt_below HQ.out hb); replace HG := k_ (blk_below HG.out hb); replace LN2 := k_ (Nat.le_trans LN2.out (below_size hb)); replace HF := k_ (Kd.R_below HF.out hb); have HV := HV1; clear HV1 ho hb h2_; have r1402 := blk8 HX.out) | (go_at_call 17; clear mktZ; refine (spec_IndexOf.calls KC _ _ (sfv z) x.f1 tZ _ (Kd.R_reads' HV.out).2.2 (Kd.R_reads' HV.out).2.1 HKC.out).mono ?_; rintro e w12 ⟨rfl, hd⟩; have hb := Drawn0.below hd; replace HX := k_ (blk_below HX.out hb); replace HZ := k_ (blk_below HZ.out hb); replace HR := k_ (blk_below HR.out hb); replace HB := k_ (below_step HB.out hb); replace LN := k_ (Nat.le_trans LN.out (below_size hb)); replace HQ := k_ (Apt_below HQ.out hb); replace HG := k_ (blk_below HG.out hb); replace LN2 := k_ (Nat.le_trans LN2.out (below_size hb)); replace HF := k_ (Kd.R_below HF.out hb); replace HV := k_ (Kd.R_below HV.out hb); clear hb hd) | (go_at_call 17; clear mktY; refine (spec_IndexOf.calls KD _ _ (sfv y) nm tY _ (Kd.R_reads' HF.out).2.2 (Kd.R_reads' HF.out).2.1 HKD.out).mono ?_; rintro e w13 ⟨rfl, hd⟩; have hb := Drawn0.below hd; replace HX := k_ (blk_below HX.out hb); replace HZ := k_ (blk_below HZ.out hb); replace HR := k_ (blk_below HR.out hb); replace HB := k_ (below_step HB.out hb); replace LN := k_ (Nat.le_trans LN.out (below_size hb)); replace HQ := k_ (Apt_below HQ.out hb); replace HG := k_ (blk_below HG.out hb); replace LN2 := k_ (Nat.le_trans LN2.out (below_size hb)); replace HF := k_ (Kd.R_below HF.out hb); replace HV := k_ (Kd.R_below HV.out hb); clear hb hd))
        go_meet
        case rel => exact ⟨x.f1, x.f5, cs0, ⟨(newN_no HRB.out).symm⟩, ⟨Row_start (subF k) HRB.out⟩, HE0, HX, HZ, HR, HG, HQ, LN, HB⟩
      ·replace kF : hasB (sfv z) x.f1 = false := by simpa using kF
       have kY := True.intro
       have HCF := k_ kF; have HCY := k_ kY
       clear kF kY
       have mkHF := True.intro; have mkHV := True.intro; have mktZ := True.intro; have mktY := True.intro
       obtain ⟨KY, hKY⟩ := (FreeVars_same y SMY.out (by have := NYz.out; have := nd_pos z; omega)).2
       have HFY := k_ (hKY KY (Nat.le_refl _))
       obtain ⟨KZ, hKZ⟩ := (FreeVars_same z SZ.out (by have := NYz.out; have := nd_pos y; omega)).2
       have HFZ := k_ (hKZ KZ (Nat.le_refl _))
       clear hKY hKZ
       have LFY := k_ (sfv_len y); have LFZ := k_ (sfv_len z)
       obtain ⟨tZ, h1_, h2_⟩ := idx_ev (sfv z) (by have := NYz.out; have := LFZ.out; have := LFY.out; omega) x.f1
       obtain ⟨KC, hK_⟩ := h1_
       have HKC := k_ (hK_ KC (Nat.le_refl _))
       clear hK_
       have tZ1 : decide (tZ ≥ 0) = false := decide_eq_false (by rw [HCF.out] at h2_; have := h2_.2 rfl; omega)
       clear h2_
       have HRB := k_ (show renB x nm z = false by rw [renB_at z KI.out K4.out, ← HY.out, HCF.out]; rfl)
       obtain ⟨n2, hn2⟩ : ∃ n, n = wc.heap.size := ⟨_, rfl⟩
       have LN2 := k_ (show n2 ≤ wc.heap.size by rw [hn2]; exact Nat.le_refl _)
       have N2_gx := k_ (limB hn2 HX.out)
       have N2_gy := k_ (limB hn2 HZ.out)
       have N2_gr := k_ (limB hn2 HR.out)
       have N2_HQ := k_ (limA hn2 HQ.out)
       have N2_gg := k_ (limB hn2 HG.out)
       clear hn2
       replace y0 := (HB.out.cell (World.block_lt_of_cell? w _ y0)).trans y0
       replace y1 := (HB.out.cell (World.block_lt_of_cell? w _ y1)).trans y1
       replace y2 := (HB.out.cell (World.block_lt_of_cell? w _ y2)).trans y2
       replace y3 := (HB.out.cell (World.block_lt_of_cell? w _ y3)).trans y3
       replace y4 := (HB.out.cell (World.block_lt_of_cell? w _ y4)).trans y4
       replace y5 := (HB.out.cell (World.block_lt_of_cell? w _ y5)).trans y5
       replace y6 := (HB.out.cell (World.block_lt_of_cell? w _ y6)).trans y6
       replace y7 := (HB.out.cell (World.block_lt_of_cell? w _ y7)).trans y7
       have r1351 := blk8 HX.out
       go_wp2_with (first | (go_at_call 16; clear mkHF; refine (spec_FreeVars.calls KY y.f0 y.f1 y.f2 y.f3.f0 _ _ y.f3.f1 _ _ y.f3.f2 _ _ y.f4 _ _ y.f5 (sfv y) _ (Kd.C_below M1.out.1 HB.out) M1.out.2 (Kd.C_below M2.out.1 HB.out) M2.out.2 (Kd.C_below M3.out.1 HB.out) M3.out.2 (Kd.C_below M4.out.1 HB.out) M4.out.2 HFY.out).mono ?_; have h2_ := k_ (show n2 ≤ wc.heap.size from LN2.out); rintro e w10 ⟨v_, rfl, ho, hb⟩; obtain ⟨AHF, cHF, rfl⟩ := Kd.R_slice ho; have HF1 := k_ (R_from (n := n2) ho h2_.out (below_size HB.out)); replace HX := k_ (blk_below HX.out hb); replace HZ := k_ (blk_below HZ.out hb); replace HR := k_ (blk_below HR.out hb); replace HB := k_ (below_step HB.out hb); replace LN := k_ (Nat.le_trans LN.out (below_size hb)); replace HQ := k_ (Apt_below HQ.out hb); replace HG := k_ (blk_below HG.out hb); replace LN2 := k_ (Nat.le_trans LN2.out (below_size hb)); have HF := HF1; clear HF1 ho hb h2_; clear y0 y1 y2 y3 y4 y5 y6 y7; have r1401 := blk8 HZ.out) | (go_at_call 16; clear mkHV; refine (spec_FreeVars.calls KZ z.f0 z.f1 z.f2 z.f3.f0 _ _ z.f3.f1 _ _ z.f3.f2 _ _ z.f4 _ _ z.f5 (sfv z) _ (Kd.C_below Z1.out.1 HB.out) Z1.out.2 (Kd.C_below Z2.out.1 HB.out) Z2.out.2 (Kd.C_below Z3.out.1 HB.out) Z3.out.2 (Kd.C_below Z4.out.1 HB.out) Z4.out.2 HFZ.out).mono ?_; have h2_ := k_ (show n2 ≤ w10.heap.size from LN2.out); rintro e w11 ⟨v_, rfl, ho, hb⟩; obtain ⟨AHV, cHV, rfl⟩ := Kd.R_slice ho; have HV1 := k_ (R_from (n := n2) ho h2_.out (below_size HB.out)); replace HX := k_ (blk_below HX.out hb); replace HZ := k_ (blk_below HZ.out hb); replace HR := k_ (blk_below HR.out hb); replace HB := k_ (below_step HB.out hb); replace LN := k_ (Nat.le_trans LN.out (below_size hb)); replace HQ := k_ (Apt_below HQ.out hb); replace HG := k_ (blk_below HG.out hb); replace LN2 := k_ (Nat.le_trans LN2.out (below_size hb)); replace HF := k_ (Kd.R_below HF.out hb); have HV := HV1; clear HV1 ho hb h2_; have r1402 := blk8 HX.out) | (go_at_call 17; clear mktZ; refine (spec_IndexOf.calls KC _ _ (sfv z) x.f1 tZ _ (Kd.R_reads' HV.out).2.2 (Kd.R_reads' HV.out).2.1 HKC.out).mono ?_; rintro e w12 ⟨rfl, hd⟩; have hb := Drawn0.below hd; replace HX := k_ (blk_below HX.out hb); replace HZ := k_ (blk_below HZ.out hb); replace HR := k_ (blk_below HR.out hb); replace HB := k_ (below_step HB.out hb); replace LN := k_ (Nat.le_trans LN.out (below_size hb)); replace HQ := k_ (Apt_below HQ.out hb); replace HG := k_ (blk_below HG.out hb); replace LN2 := k_ (Nat.le_trans LN2.out (below_size hb)); replace HF := k_ (Kd.R_below HF.out hb); replace HV := k_ (Kd.R_below HV.out hb); clear hb hd))
       go_meet
       case rel => exact ⟨x.f1, x.f5, cs0, ⟨(newN_no HRB.out).symm⟩, ⟨Row_start (subF k) HRB.out⟩, HE0, HX, HZ, HR, HG, HQ, LN, HB⟩
    case rest =>
     clear HX HZ HR HG HQ LN HB HC
     obtain ⟨gn, ys0, cs1, HGN, HRW, HE, HX, HZ, HR, HG, HQ, LN, HB⟩ := hcut
     try go_wp2
     go_loopg [11] x.f5.length (fun gq_ v11 w' => ∃ (i : Nat) (cs : List HT) (ys : List S35), v11 = .int .i64 (i : Int) ∧ Aside0 (i + gq_ = x.f5.length) ∧ Aside0 (Row (subF k) x nm z i ys) ∧ Aside0 (TeES ys cs) ∧ Aside0 (w'.heap[gx]? = some (.cells #[.int .i64 x.f0, .string x.f1, .int .i64 x.f2, .int .i64 x.f3.f0, .slice A1 x.f3.f1.length c1, .slice A2 x.f3.f2.length c2, .slice A3 x.f4.length c3, .slice A4 x.f5.length c4] 35 (0, 0))) ∧ Aside0 (w'.heap[gy]? = some (.cells #[.int .i64 z.f0, .string z.f1, .int .i64 z.f2, .int .i64 z.f3.f0, .slice D1 z.f3.f1.length kz1, .slice D2 z.f3.f2.length kz2, .slice D3 z.f4.length kz3, .slice D4 z.f5.length kz4] 35 (0, 0))) ∧ Aside0 (w'.heap[gr]? = some (.cells #[.int .i64 0, .string ⟨#[]⟩, .int .i64 0, .int .i64 0, .slice none 0 0, .slice none 0 0, .slice none 0 0, .slice none 0 0] 35 (0, 0))) ∧ Aside0 (w'.heap[gg]? = some (.cells #[.int .i64 x.f0, .string gn, .int .i64 x.f2, .int .i64 x.f3.f0, .slice P1 x.f3.f1.length q1, .slice P2 x.f3.f2.length q2, .slice Ao x.f4.length co, .slice Q4 x.f5.length cq4] 35 (0, 0))) ∧ Aside0 (Apt w' n1 ([.lf (.int .i64 x.f3.f0), strR (.slice P1 x.f3.f1.length q1) x.f3.f1, .row 32 3 x.f3.f2.length (.slice P2 x.f3.f2.length q2) us, strR (.slice Ao x.f4.length co) x.f4] ++ [HT.row 35 8 x.f5.length (.slice Q4 x.f5.length cq4) cs])) ∧ Aside0 (n1 ≤ w'.heap.size) ∧ Aside0 (Below w.heap.size w w'))
     case atStart => exact ⟨0, cs1, ys0, rfl, ⟨by omega⟩, HRW, HE, HX, HZ, HR, HG, HQ, LN, HB⟩
     case round =>
      clear HX HZ HR HG HQ LN HB HE HRW
      obtain ⟨i, cs, ys, rfl, HI, HRW, HE, HX, HZ, HR, HG, HQ, LN, HB⟩ := hrel
      by_cases d1 : i < x.f5.length
      ·have HD := k_ d1
       have d2 : (i : Int) < (x.f5.length : Int) := by omega
       have d3 : decide ((i : Int) < (x.f5.length : Int)) = true := decide_eq_true d2
       have d4 := eq_true d2
       have d5 : (0 ≤ (i : Int)) = True := eq_true (by omega)
       have hwi : wrap64 ((i : Int) + 1) = ((i + 1 : Nat) : Int) := by have h1 := SM.out.p5.1; have h2 := HD.out; unfold wrap64; omega
       have r1501 := blk8 HG.out
       have r1502 := blk8 HX.out
       by_cases k3 : (i : Int) = bd
       ·by_cases k4 : x.f1 = nm
        ·have K3 := k_ k3
         have k3a : ((i : Int) == bd) = true := beq_iff_eq.mpr k3
         have k3b : ((i : Int) != bd) = false := bne_eq_false_iff_eq.mpr k3
         have K4 := k_ k4
         have k4a : (x.f1.toList == nm.toList) = true := beq_iff_eq.mpr (congrArg ByteArray.toList k4)
         have k4b : (x.f1.toList != nm.toList) = false := bne_eq_false_iff_eq.mpr (congrArg ByteArray.toList k4)
         clear k3 k4
         try go_wp2
         go_roundg (gk - 1)
         case measure => have := HI.out; have := HD.out; omega
         case rel => exact ⟨i + 1, cs, _, (by first | rfl | rw [hwi] | simp [hwi]), ⟨by have := HI.out; have := HD.out; omega⟩, ⟨Row_keep HRW.out (argF_keep (subF k) (show (i : Int) = bdAt x by rw [← HBD.out]; exact K3.out) K4.out)⟩, ⟨HE.out⟩, HX, HZ, HR, HG, HQ, LN, HB⟩
        ·have K3 := k_ k3
         have k3a : ((i : Int) == bd) = true := beq_iff_eq.mpr k3
         have k3b : ((i : Int) != bd) = false := bne_eq_false_iff_eq.mpr k3
         have K4 := k_ k4
         have k4a : (x.f1.toList == nm.toList) = false := beq_eq_false_iff_ne.mpr (fun e => k4 (str_ext e))
         have k4b : (x.f1.toList != nm.toList) = true := bne_iff_ne.mpr (fun e => k4 (str_ext e))
         clear k3 k4
         have HNK := k_ (show ¬ ((i : Int) = bdAt x ∧ x.f1 = nm) from fun h => K4.out h.2)
         have e_ := HRW.out.1
         obtain ⟨ca, cc, cb, rfl, hca, hTa, hTc, hTb⟩ := TeES_split ys cs i HE.out (by rw [e_]; exact HD.out)
         rw [Row_at HRW.out HD.out] at hTc
         obtain ⟨m, hm_⟩ : ∃ m, m = midF (subF k) x nm z i := ⟨_, rfl⟩
         rw [← hm_] at hTc
         have MOK := k_ (show SmTerm m ∧ ndTerm m + 1 ≤ ndTerm x by rw [hm_]; exact mid_ok k nm SM.out NN.out HD.out)
         have HMM := k_ hm_
         clear hm_ e_
         have HTA := k_ hTa; have HTB := k_ hTb; have HCA := k_ hca
         obtain ⟨gq, capq, hv, hgq1, hgq2, hgq3, hgq4⟩ := row_at HQ.out (by rw [TeE_len hTc]; decide) (fun h0 => absurd HD.out (by omega))
         obtain ⟨F1, cf1, F2, cf2, F3, cf3, F4, cf4, uf, df, rfl, huf, hdf⟩ := TeE_open hTc (row_part HQ.out)
         injection hv with hv1 _ hv3
         subst hv1
         subst hv3
         have HUM := k_ huf; have HDM := k_ hdf
         have N_gx_gq := k_ (show gx ≠ gq from fun e => absurd hgq1 (by have := L_gx.out; omega)); have N_gy_gq := k_ (show gy ≠ gq from fun e => absurd hgq1 (by have := L_gy.out; omega)); have N_gr_gq := k_ (show gr ≠ gq from fun e => absurd hgq1 (by have := L_gr.out; omega)); have N_gg_gq := k_ (show gg ≠ gq from Ne.symm (O_gg.out gq rfl)); have G_gq := k_ (show w.heap.size ≤ gq from Nat.le_trans L_w.out hgq1)
         clear hTa hTb hTc hca hgq1 hgq2 hgq3 hgq4 huf hdf
         try go_wp2
         replace HX := k_ (blk_drew HX.out)
         replace HZ := k_ (blk_drew HZ.out)
         replace HR := k_ (blk_drew HR.out)
         replace HB := k_ (below_drew1 HB.out)
         replace LN := k_ (show n1 ≤ wr.drew.heap.size from LN.out)
         replace HQ := k_ (Apt_below HQ.out (below_drew1 (Below.refl _ _)))
         replace HG := k_ (blk_drew HG.out)
         refine start_ (n := 13) (S := fun w' => (w'.heap[gg]? = some (.cells #[.int .i64 x.f0, .string gn, .int .i64 x.f2, .int .i64 x.f3.f0, .slice P1 x.f3.f1.length q1, .slice P2 x.f3.f2.length q2, .slice Ao x.f4.length co, .slice (some ⟨gq, 0, none⟩) x.f5.length cq4] 35 (0, 0))) ∧ w'.cell? ⟨gq, i * 8, none⟩ = some (.int .i64 m.f0) ∧ w'.cell? ⟨gq, i * 8 + 1, none⟩ = some (.string m.f1) ∧ w'.cell? ⟨gq, i * 8 + 2, none⟩ = some (.int .i64 m.f2) ∧ w'.cell? ⟨gq, i * 8 + 3, none⟩ = some (.int .i64 m.f3.f0) ∧ w'.cell? ⟨gq, i * 8 + 4, none⟩ = some (.slice F1 m.f3.f1.length cf1) ∧ w'.cell? ⟨gq, i * 8 + 5, none⟩ = some (.slice F2 m.f3.f2.length cf2) ∧ w'.cell? ⟨gq, i * 8 + 6, none⟩ = some (.slice F3 m.f4.length cf3) ∧ w'.cell? ⟨gq, i * 8 + 7, none⟩ = some (.slice F4 m.f5.length cf4) ∧ (w'.heap[gy]? = some (.cells #[.int .i64 z.f0, .string z.f1, .int .i64 z.f2, .int .i64 z.f3.f0, .slice D1 z.f3.f1.length kz1, .slice D2 z.f3.f2.length kz2, .slice D3 z.f4.length kz3, .slice D4 z.f5.length kz4] 35 (0, 0)))) (ds := [12]) mSubS17 (by kernel_rfl) rfl rfl ⟨HG.out, row_cell HQ.out HCA.out 0 rfl, row_cell HQ.out HCA.out 1 rfl, row_cell HQ.out HCA.out 2 rfl, row_cell HQ.out HCA.out 3 rfl, row_cell HQ.out HCA.out 4 rfl, row_cell HQ.out HCA.out 5 rfl, row_cell HQ.out HCA.out 6 rfl, row_cell HQ.out HCA.out 7 rfl, HZ.out⟩ (fun hHeld => ?_); refine with_tabW tabR.tab15 tabR.bits15 (fun HT_ HW_ => ?_)
         generalize wr.drew = w20 at HX HZ HR HB LN HQ HG hHeld ⊢
         refine pure_ (i := 0) (N := some 93) (v := ?_) (a' := ?_) mSubS18 rfl rfl (any_of HT_.out (by kernel_rfl)) (fun _ _ _ h => h) (Or.inl ⟨by rfl, ?_⟩) ?_ ?_
         rotate_left
         ·intro w'
          go_simp
          try with_reducible rfl
         rotate_left
         ·simp only [Act.put, sP]
          rfl
         refine pure_ (i := 2) (N := some 95) (v := ?_) (a' := ?_) mSubS19 rfl rfl (any_of HT_.out (by kernel_rfl)) (fun _ _ _ h => h) (Or.inl ⟨by rfl, ?_⟩) ?_ ?_
         rotate_left
         ·intro w'
          go_simp
          try with_reducible rfl
         rotate_left
         ·simp only [Act.put, sP]
          rfl
         refine pure_ (i := 3) (N := some 96) (v := ?_) (a' := ?_) mSubS20 rfl rfl (any_of HT_.out (by kernel_rfl)) (fun _ _ _ h => h) (Or.inl ⟨by rfl, ?_⟩) ?_ ?_
         rotate_left
         ·intro w'
          go_simp
          try with_reducible rfl
         rotate_left
         ·simp only [Act.put, sP]
          rfl
         refine pure_ (i := 5) (N := some 98) (v := ?_) (a' := ?_) mSubS21 rfl rfl (any_of HT_.out (by kernel_rfl)) (fun _ _ _ h => h) (Or.inl ⟨by rfl, ?_⟩) ?_ ?_
         rotate_left
         ·intro w'
          go_simp
          try with_reducible rfl
         rotate_left
         ·simp only [Act.put, sP]
          rfl
         refine pure_ (i := 8) (N := some 101) (v := ?_) (a' := ?_) mSubS22 rfl rfl (any_of HT_.out (by kernel_rfl)) (fun _ _ _ h => h) (Or.inl ⟨by rfl, ?_⟩) ?_ ?_
         rotate_left
         ·intro w'
          go_simp
          try with_reducible rfl
         rotate_left
         ·simp only [Act.put, sP]
          rfl
         refine take_ (i := 1) (N := some 94) (v := ?_) (a' := ?_) mSubS23 rfl rfl (take_ofW HT_.out HW_.out (by kernel_rfl)) (fun _ _ _ h => h) (Or.inl ⟨by rfl, ?_⟩) hHeld ?_ ?_
         rotate_left
         ·rintro w' ⟨s0, s1, s2, s3, s4, s5, s6, s7, s8, s9⟩
          have q0 := blk8 s0
          have q9 := blk8 s9
          go_simp
          with_reducible rfl
         rotate_left
         ·simp only [Act.put, sP]
          rfl
         refine take_ (i := 4) (N := some 97) (v := ?_) (a' := ?_) mSubS24 rfl rfl (take_ofW HT_.out HW_.out (by kernel_rfl)) (fun _ _ _ h => h) (Or.inl ⟨by rfl, ?_⟩) hHeld ?_ ?_
         rotate_left
         ·rintro w' ⟨s0, s1, s2, s3, s4, s5, s6, s7, s8, s9⟩
          have q0 := blk8 s0
          have q9 := blk8 s9
          go_simp
          with_reducible rfl
         rotate_left
         ·simp only [Act.put, sP]
          rfl
         refine take_ (i := 9) (N := some 102) (v := ?_) (a' := ?_) mSubS25 rfl rfl (take_ofW HT_.out HW_.out (by kernel_rfl)) (fun _ _ _ h => h) (Or.inl ⟨by rfl, ?_⟩) hHeld ?_ ?_
         rotate_left
         ·rintro w' ⟨s0, s1, s2, s3, s4, s5, s6, s7, s8, s9⟩
          have q0 := blk8 s0
          have q9 := blk8 s9
          go_simp
          with_reducible rfl
         rotate_left
         ·simp only [Act.put, sP]
          rfl
         refine pure_ (i := 6) (N := some 99) (v := ?_) (a' := ?_) mSubS26 rfl rfl (any_of HT_.out (by kernel_rfl)) (fun _ _ _ h => h) (Or.inl ⟨by rfl, ?_⟩) ?_ ?_
         rotate_left
         ·intro w'
          go_simp
          try with_reducible rfl
         rotate_left
         ·simp only [Act.put, sP]
          rfl
         refine take_ (i := 7) (N := some 100) (v := ?_) (a' := ?_) mSubS27 rfl rfl (take_ofW HT_.out HW_.out (by kernel_rfl)) (fun _ _ _ h => h) (Or.inl ⟨by rfl, ?_⟩) hHeld ?_ ?_
         rotate_left
         ·rintro w' ⟨s0, s1, s2, s3, s4, s5, s6, s7, s8, s9⟩
          have q0 := blk8 s0
          have q9 := blk8 s9
          go_simp
          with_reducible rfl
         rotate_left
         ·simp only [Act.put, sP]
          rfl
         refine one_ (i := 10) (N := some 103) mSubS28 rfl rfl (one_of HT_.out (by kernel_rfl)) (by decide) (fun K hK => ?_)
         have HM := k_ (Apt_lt HQ.out)
         have HW0 := k_ (show n1 ≤ w20.heap.size from LN.out)
         have TC := TeE_C (row_part HQ.out) HUM.out HDM.out
         refine goes_ Tryd.func5 (by kernel_rfl) rfl #[.agg #[.int .i64 m.f0, .string m.f1, .int .i64 m.f2, .int .i64 m.f3.f0, .slice F1 m.f3.f1.length cf1, .slice F2 m.f3.f2.length cf2, .slice F3 m.f4.length cf3, .slice F4 m.f5.length cf4], .string nm, .agg #[.int .i64 z.f0, .string z.f1, .int .i64 z.f2, .int .i64 z.f3.f0, .slice D1 z.f3.f1.length kz1, .slice D2 z.f3.f2.length kz2, .slice D3 z.f4.length kz3, .slice D4 z.f5.length kz4]] (by rfl) rfl rfl (by (try simp only [List.map_toArray, List.map_cons, List.map_nil]); first | done | rfl) ?_
         refine (IH.out m nm z MOK.out.1 SZ.out (by have := MOK.out.2; have := NK.out; omega) (by have := MOK.out.2; have := NN.out; omega) F1 cf1 F2 cf2 F3 cf3 F4 cf4 D1 kz1 D2 kz2 D3 kz3 D4 kz4 _ TC.1 TC.2.1 TC.2.2.1 TC.2.2.2 ⟨Kd.C_below Z1.out.1 HB.out, Z1.out.2⟩ ⟨Kd.C_below Z2.out.1 HB.out, Z2.out.2⟩ ⟨Kd.C_below Z3.out.1 HB.out, Z3.out.2⟩ ⟨Kd.C_below Z4.out.1 HB.out, Z4.out.2⟩).mono ?_
         clear TC
         rintro e w22 ⟨hs, rfl, hE, hA, hb⟩
         obtain ⟨t, ht_⟩ : ∃ t_, t_ = subF k m nm z := ⟨_, rfl⟩
         rw [← ht_] at hE
         have HT_E := k_ ht_
         clear ht_
         obtain ⟨Q1, cq1, Q2, cq2, Q3, cq3, Q4, cqt, us', ds, rfl, hus', hds⟩ := TeE_open hE hA
         refine ⟨.agg #[.int .i64 t.f0, .string t.f1, .int .i64 t.f2, .int .i64 t.f3.f0, .slice Q1 t.f3.f1.length cq1, .slice Q2 t.f3.f2.length cq2, .slice Q3 t.f4.length cq3, .slice Q4 t.f5.length cqt], rfl, ?_⟩
         replace HX := k_ (blk_below HX.out hb)
         replace HZ := k_ (blk_below HZ.out hb)
         replace HR := k_ (blk_below HR.out hb)
         replace HB := k_ (below_step HB.out hb)
         replace LN := k_ (Nat.le_trans LN.out (below_size hb))
         replace HQ := k_ (Apt_below HQ.out hb)
         replace HG := k_ (blk_below HG.out hb)
         have HH := k_ hA; have HEy := k_ hE
         clear hA hE hds hus' hb
         refine hK.out _ _ ⟨HG.out, row_cell HQ.out HCA.out 0 rfl, row_cell HQ.out HCA.out 1 rfl, row_cell HQ.out HCA.out 2 rfl, row_cell HQ.out HCA.out 3 rfl, row_cell HQ.out HCA.out 4 rfl, row_cell HQ.out HCA.out 5 rfl, row_cell HQ.out HCA.out 6 rfl, row_cell HQ.out HCA.out 7 rfl, HZ.out⟩ (fun hHeld => ?_)
         clear hK K
         refine norm_ (a' := ?_) ?_ ?_
         rotate_left
         ·show Act.put _ (some 103) _ = _
          simp only [Act.put, sP]
          rfl
         refine pure_ (i := 11) (N := some 104) (v := ?_) (a' := ?_) mSubS29 rfl rfl (any_of HT_.out (by kernel_rfl)) (fun _ _ _ h => h) (Or.inl ⟨by rfl, ?_⟩) ?_ ?_
         rotate_left
         ·intro w'
          go_simp
          try with_reducible rfl
         rotate_left
         ·simp only [Act.put, sP]
          rfl
         refine last_ (i := 12) (N := none) mSubS30 rfl rfl (one_of HT_.out (by kernel_rfl)) (by decide) (fun K hK => ?_)
         have r1601 := row_cell HQ.out HCA.out 0 rfl
         have z1601 := row_frozen HQ.out (i * 8)
         have r1602 := row_cell HQ.out HCA.out 1 rfl
         have z1602 := row_frozen HQ.out (i * 8 + 1)
         have r1603 := row_cell HQ.out HCA.out 2 rfl
         have z1603 := row_frozen HQ.out (i * 8 + 2)
         have r1604 := row_cell HQ.out HCA.out 3 rfl
         have z1604 := row_frozen HQ.out (i * 8 + 3)
         have r1605 := row_cell HQ.out HCA.out 4 rfl
         have z1605 := row_frozen HQ.out (i * 8 + 4)
         have r1606 := row_cell HQ.out HCA.out 5 rfl
         have z1606 := row_frozen HQ.out (i * 8 + 5)
         have r1607 := row_cell HQ.out HCA.out 6 rfl
         have z1607 := row_frozen HQ.out (i * 8 + 6)
         have r1608 := row_cell HQ.out HCA.out 7 rfl
         have z1608 := row_frozen HQ.out (i * 8 + 7)
         dsimp only [Nat.add_zero] at r1601
         refine skip_ (w1 := w22.setCells gq (i * 8) [.int .i64 t.f0, .string t.f1, .int .i64 t.f2, .int .i64 t.f3.f0, .slice Q1 t.f3.f1.length cq1, .slice Q2 t.f3.f2.length cq2, .slice Q3 t.f4.length cq3, .slice Q4 t.f5.length cqt]) (by rfl) rfl (by go_simp; rfl) ?_
         obtain ⟨w23, hw⟩ : ∃ w_, w_ = w22.setCells gq (i * 8) [.int .i64 t.f0, .string t.f1, .int .i64 t.f2, .int .i64 t.f3.f0, .slice Q1 t.f3.f1.length cq1, .slice Q2 t.f3.f2.length cq2, .slice Q3 t.f4.length cq3, .slice Q4 t.f5.length cqt] := ⟨_, rfl⟩
         rw [← hw]
         replace HX := k_ (bfw hw HX.out N_gx_gq.out)
         replace HZ := k_ (bfw hw HZ.out N_gy_gq.out)
         replace HR := k_ (bfw hw HR.out N_gr_gq.out)
         replace HB := k_ (bew hw HB.out G_gq.out)
         replace LN := k_ (siw hw LN.out)
         replace HQ := k_ (show Apt w23 n1 ([.lf (.int .i64 x.f3.f0), strR (.slice P1 x.f3.f1.length q1) x.f3.f1, .row 32 3 x.f3.f2.length (.slice P2 x.f3.f2.length q2) us, strR (.slice Ao x.f4.length co) x.f4] ++ [HT.row 35 8 x.f5.length (.slice (some ⟨gq, 0, none⟩) x.f5.length cq4) (ca ++ [.lf (.int .i64 t.f0), .lf (.string t.f1), .lf (.int .i64 t.f2), .lf (.int .i64 t.f3.f0), strR (.slice Q1 t.f3.f1.length cq1) t.f3.f1, .row 32 3 t.f3.f2.length (.slice Q2 t.f3.f2.length cq2) us', strR (.slice Q3 t.f4.length cq3) t.f4, .row 35 8 t.f5.length (.slice Q4 t.f5.length cqt) ds] ++ cb)]) by rw [hw]; exact row_put HQ.out HH.out HM.out HW0.out rfl HCA.out)
         replace HG := k_ (bfw hw HG.out N_gg_gq.out)
         clear hw
         refine hK.out _ _ ?_
         clear hK K
         refine done_ (done_of HT_.out (by kernel_rfl)) ?_
         clear HT_ HW_
         clear hHeld
         try go_wp2
         go_roundg (gk - 1)
         case measure => have := HI.out; have := HD.out; omega
         case rel => exact ⟨i + 1, _, _, (by first | rfl | rw [hwi] | simp [hwi]), ⟨by have := HI.out; have := HD.out; omega⟩, ⟨by have h_ := Row_step HRW.out HD.out; rw [argF_mid (subF k) HNK.out, ← HMM.out, ← HT_E.out] at h_; exact h_⟩, ⟨TeES_put (by rw [HRW.out.1]; exact HD.out) HTA.out HEy.out HTB.out⟩, HX, HZ, HR, HG, HQ, LN, HB⟩
       ·have K3 := k_ k3
        have k3a : ((i : Int) == bd) = false := beq_eq_false_iff_ne.mpr k3
        have k3b : ((i : Int) != bd) = true := bne_iff_ne.mpr k3
        clear k3
        have HNK := k_ (show ¬ ((i : Int) = bdAt x ∧ x.f1 = nm) from fun h => K3.out (by rw [HBD.out]; exact h.1))
        have e_ := HRW.out.1
        obtain ⟨ca, cc, cb, rfl, hca, hTa, hTc, hTb⟩ := TeES_split ys cs i HE.out (by rw [e_]; exact HD.out)
        rw [Row_at HRW.out HD.out] at hTc
        obtain ⟨m, hm_⟩ : ∃ m, m = midF (subF k) x nm z i := ⟨_, rfl⟩
        rw [← hm_] at hTc
        have MOK := k_ (show SmTerm m ∧ ndTerm m + 1 ≤ ndTerm x by rw [hm_]; exact mid_ok k nm SM.out NN.out HD.out)
        have HMM := k_ hm_
        clear hm_ e_
        have HTA := k_ hTa; have HTB := k_ hTb; have HCA := k_ hca
        obtain ⟨gq, capq, hv, hgq1, hgq2, hgq3, hgq4⟩ := row_at HQ.out (by rw [TeE_len hTc]; decide) (fun h0 => absurd HD.out (by omega))
        obtain ⟨F1, cf1, F2, cf2, F3, cf3, F4, cf4, uf, df, rfl, huf, hdf⟩ := TeE_open hTc (row_part HQ.out)
        injection hv with hv1 _ hv3
        subst hv1
        subst hv3
        have HUM := k_ huf; have HDM := k_ hdf
        have N_gx_gq := k_ (show gx ≠ gq from fun e => absurd hgq1 (by have := L_gx.out; omega)); have N_gy_gq := k_ (show gy ≠ gq from fun e => absurd hgq1 (by have := L_gy.out; omega)); have N_gr_gq := k_ (show gr ≠ gq from fun e => absurd hgq1 (by have := L_gr.out; omega)); have N_gg_gq := k_ (show gg ≠ gq from Ne.symm (O_gg.out gq rfl)); have G_gq := k_ (show w.heap.size ≤ gq from Nat.le_trans L_w.out hgq1)
        clear hTa hTb hTc hca hgq1 hgq2 hgq3 hgq4 huf hdf
        try go_wp2
        replace HX := k_ (blk_drew HX.out)
        replace HZ := k_ (blk_drew HZ.out)
        replace HR := k_ (blk_drew HR.out)
        replace HB := k_ (below_drew1 HB.out)
        replace LN := k_ (show n1 ≤ wr.drew.heap.size from LN.out)
        replace HQ := k_ (Apt_below HQ.out (below_drew1 (Below.refl _ _)))
        replace HG := k_ (blk_drew HG.out)
        refine start_ (n := 13) (S := fun w' => (w'.heap[gg]? = some (.cells #[.int .i64 x.f0, .string gn, .int .i64 x.f2, .int .i64 x.f3.f0, .slice P1 x.f3.f1.length q1, .slice P2 x.f3.f2.length q2, .slice Ao x.f4.length co, .slice (some ⟨gq, 0, none⟩) x.f5.length cq4] 35 (0, 0))) ∧ w'.cell? ⟨gq, i * 8, none⟩ = some (.int .i64 m.f0) ∧ w'.cell? ⟨gq, i * 8 + 1, none⟩ = some (.string m.f1) ∧ w'.cell? ⟨gq, i * 8 + 2, none⟩ = some (.int .i64 m.f2) ∧ w'.cell? ⟨gq, i * 8 + 3, none⟩ = some (.int .i64 m.f3.f0) ∧ w'.cell? ⟨gq, i * 8 + 4, none⟩ = some (.slice F1 m.f3.f1.length cf1) ∧ w'.cell? ⟨gq, i * 8 + 5, none⟩ = some (.slice F2 m.f3.f2.length cf2) ∧ w'.cell? ⟨gq, i * 8 + 6, none⟩ = some (.slice F3 m.f4.length cf3) ∧ w'.cell? ⟨gq, i * 8 + 7, none⟩ = some (.slice F4 m.f5.length cf4) ∧ (w'.heap[gy]? = some (.cells #[.int .i64 z.f0, .string z.f1, .int .i64 z.f2, .int .i64 z.f3.f0, .slice D1 z.f3.f1.length kz1, .slice D2 z.f3.f2.length kz2, .slice D3 z.f4.length kz3, .slice D4 z.f5.length kz4] 35 (0, 0)))) (ds := [12]) mSubS17 (by kernel_rfl) rfl rfl ⟨HG.out, row_cell HQ.out HCA.out 0 rfl, row_cell HQ.out HCA.out 1 rfl, row_cell HQ.out HCA.out 2 rfl, row_cell HQ.out HCA.out 3 rfl, row_cell HQ.out HCA.out 4 rfl, row_cell HQ.out HCA.out 5 rfl, row_cell HQ.out HCA.out 6 rfl, row_cell HQ.out HCA.out 7 rfl, HZ.out⟩ (fun hHeld => ?_); refine with_tabW tabR.tab15 tabR.bits15 (fun HT_ HW_ => ?_)
        generalize wr.drew = w20 at HX HZ HR HB LN HQ HG hHeld ⊢
        refine pure_ (i := 0) (N := some 93) (v := ?_) (a' := ?_) mSubS18 rfl rfl (any_of HT_.out (by kernel_rfl)) (fun _ _ _ h => h) (Or.inl ⟨by rfl, ?_⟩) ?_ ?_
        rotate_left
        ·intro w'
         go_simp
         try with_reducible rfl
        rotate_left
        ·simp only [Act.put, sP]
         rfl
        refine pure_ (i := 2) (N := some 95) (v := ?_) (a' := ?_) mSubS19 rfl rfl (any_of HT_.out (by kernel_rfl)) (fun _ _ _ h => h) (Or.inl ⟨by rfl, ?_⟩) ?_ ?_
        rotate_left
        ·intro w'
         go_simp
         try with_reducible rfl
        rotate_left
        ·simp only [Act.put, sP]
         rfl
        refine pure_ (i := 3) (N := some 96) (v := ?_) (a' := ?_) mSubS20 rfl rfl (any_of HT_.out (by kernel_rfl)) (fun _ _ _ h => h) (Or.inl ⟨by rfl, ?_⟩) ?_ ?_
        rotate_left
        ·intro w'
         go_simp
         try with_reducible rfl
        rotate_left
        ·simp only [Act.put, sP]
         rfl
        refine pure_ (i := 5) (N := some 98) (v := ?_) (a' := ?_) mSubS21 rfl rfl (any_of HT_.out (by kernel_rfl)) (fun _ _ _ h => h) (Or.inl ⟨by rfl, ?_⟩) ?_ ?_
        rotate_left
        ·intro w'
         go_simp
         try with_reducible rfl
        rotate_left
        ·simp only [Act.put, sP]
         rfl
        refine pure_ (i := 8) (N := some 101) (v := ?_) (a' := ?_) mSubS22 rfl rfl (any_of HT_.out (by kernel_rfl)) (fun _ _ _ h => h) (Or.inl ⟨by rfl, ?_⟩) ?_ ?_
        rotate_left
        ·intro w'
         go_simp
         try with_reducible rfl
        rotate_left
        ·simp only [Act.put, sP]
         rfl
        refine take_ (i := 1) (N := some 94) (v := ?_) (a' := ?_) mSubS23 rfl rfl (take_ofW HT_.out HW_.out (by kernel_rfl)) (fun _ _ _ h => h) (Or.inl ⟨by rfl, ?_⟩) hHeld ?_ ?_
        rotate_left
        ·rintro w' ⟨s0, s1, s2, s3, s4, s5, s6, s7, s8, s9⟩
         have q0 := blk8 s0
         have q9 := blk8 s9
         go_simp
         with_reducible rfl
        rotate_left
        ·simp only [Act.put, sP]
         rfl
        refine take_ (i := 4) (N := some 97) (v := ?_) (a' := ?_) mSubS24 rfl rfl (take_ofW HT_.out HW_.out (by kernel_rfl)) (fun _ _ _ h => h) (Or.inl ⟨by rfl, ?_⟩) hHeld ?_ ?_
        rotate_left
        ·rintro w' ⟨s0, s1, s2, s3, s4, s5, s6, s7, s8, s9⟩
         have q0 := blk8 s0
         have q9 := blk8 s9
         go_simp
         with_reducible rfl
        rotate_left
        ·simp only [Act.put, sP]
         rfl
        refine take_ (i := 9) (N := some 102) (v := ?_) (a' := ?_) mSubS25 rfl rfl (take_ofW HT_.out HW_.out (by kernel_rfl)) (fun _ _ _ h => h) (Or.inl ⟨by rfl, ?_⟩) hHeld ?_ ?_
        rotate_left
        ·rintro w' ⟨s0, s1, s2, s3, s4, s5, s6, s7, s8, s9⟩
         have q0 := blk8 s0
         have q9 := blk8 s9
         go_simp
         with_reducible rfl
        rotate_left
        ·simp only [Act.put, sP]
         rfl
        refine pure_ (i := 6) (N := some 99) (v := ?_) (a' := ?_) mSubS26 rfl rfl (any_of HT_.out (by kernel_rfl)) (fun _ _ _ h => h) (Or.inl ⟨by rfl, ?_⟩) ?_ ?_
        rotate_left
        ·intro w'
         go_simp
         try with_reducible rfl
        rotate_left
        ·simp only [Act.put, sP]
         rfl
        refine take_ (i := 7) (N := some 100) (v := ?_) (a' := ?_) mSubS27 rfl rfl (take_ofW HT_.out HW_.out (by kernel_rfl)) (fun _ _ _ h => h) (Or.inl ⟨by rfl, ?_⟩) hHeld ?_ ?_
        rotate_left
        ·rintro w' ⟨s0, s1, s2, s3, s4, s5, s6, s7, s8, s9⟩
         have q0 := blk8 s0
         have q9 := blk8 s9
         go_simp
         with_reducible rfl
        rotate_left
        ·simp only [Act.put, sP]
         rfl
        refine one_ (i := 10) (N := some 103) mSubS28 rfl rfl (one_of HT_.out (by kernel_rfl)) (by decide) (fun K hK => ?_)
        have HM := k_ (Apt_lt HQ.out)
        have HW0 := k_ (show n1 ≤ w20.heap.size from LN.out)
        have TC := TeE_C (row_part HQ.out) HUM.out HDM.out
        refine goes_ Tryd.func5 (by kernel_rfl) rfl #[.agg #[.int .i64 m.f0, .string m.f1, .int .i64 m.f2, .int .i64 m.f3.f0, .slice F1 m.f3.f1.length cf1, .slice F2 m.f3.f2.length cf2, .slice F3 m.f4.length cf3, .slice F4 m.f5.length cf4], .string nm, .agg #[.int .i64 z.f0, .string z.f1, .int .i64 z.f2, .int .i64 z.f3.f0, .slice D1 z.f3.f1.length kz1, .slice D2 z.f3.f2.length kz2, .slice D3 z.f4.length kz3, .slice D4 z.f5.length kz4]] (by rfl) rfl rfl (by (try simp only [List.map_toArray, List.map_cons, List.map_nil]); first | done | rfl) ?_
        refine (IH.out m nm z MOK.out.1 SZ.out (by have := MOK.out.2; have := NK.out; omega) (by have := MOK.out.2; have := NN.out; omega) F1 cf1 F2 cf2 F3 cf3 F4 cf4 D1 kz1 D2 kz2 D3 kz3 D4 kz4 _ TC.1 TC.2.1 TC.2.2.1 TC.2.2.2 ⟨Kd.C_below Z1.out.1 HB.out, Z1.out.2⟩ ⟨Kd.C_below Z2.out.1 HB.out, Z2.out.2⟩ ⟨Kd.C_below Z3.out.1 HB.out, Z3.out.2⟩ ⟨Kd.C_below Z4.out.1 HB.out, Z4.out.2⟩).mono ?_
        clear TC
        rintro e w22 ⟨hs, rfl, hE, hA, hb⟩
        obtain ⟨t, ht_⟩ : ∃ t_, t_ = subF k m nm z := ⟨_, rfl⟩
        rw [← ht_] at hE
        have HT_E := k_ ht_
        clear ht_
        obtain ⟨Q1, cq1, Q2, cq2, Q3, cq3, Q4, cqt, us', ds, rfl, hus', hds⟩ := TeE_open hE hA
        refine ⟨.agg #[.int .i64 t.f0, .string t.f1, .int .i64 t.f2, .int .i64 t.f3.f0, .slice Q1 t.f3.f1.length cq1, .slice Q2 t.f3.f2.length cq2, .slice Q3 t.f4.length cq3, .slice Q4 t.f5.length cqt], rfl, ?_⟩
        replace HX := k_ (blk_below HX.out hb)
        replace HZ := k_ (blk_below HZ.out hb)
        replace HR := k_ (blk_below HR.out hb)
        replace HB := k_ (below_step HB.out hb)
        replace LN := k_ (Nat.le_trans LN.out (below_size hb))
        replace HQ := k_ (Apt_below HQ.out hb)
        replace HG := k_ (blk_below HG.out hb)
        have HH := k_ hA; have HEy := k_ hE
        clear hA hE hds hus' hb
        refine hK.out _ _ ⟨HG.out, row_cell HQ.out HCA.out 0 rfl, row_cell HQ.out HCA.out 1 rfl, row_cell HQ.out HCA.out 2 rfl, row_cell HQ.out HCA.out 3 rfl, row_cell HQ.out HCA.out 4 rfl, row_cell HQ.out HCA.out 5 rfl, row_cell HQ.out HCA.out 6 rfl, row_cell HQ.out HCA.out 7 rfl, HZ.out⟩ (fun hHeld => ?_)
        clear hK K
        refine norm_ (a' := ?_) ?_ ?_
        rotate_left
        ·show Act.put _ (some 103) _ = _
         simp only [Act.put, sP]
         rfl
        refine pure_ (i := 11) (N := some 104) (v := ?_) (a' := ?_) mSubS29 rfl rfl (any_of HT_.out (by kernel_rfl)) (fun _ _ _ h => h) (Or.inl ⟨by rfl, ?_⟩) ?_ ?_
        rotate_left
        ·intro w'
         go_simp
         try with_reducible rfl
        rotate_left
        ·simp only [Act.put, sP]
         rfl
        refine last_ (i := 12) (N := none) mSubS30 rfl rfl (one_of HT_.out (by kernel_rfl)) (by decide) (fun K hK => ?_)
        have r1601 := row_cell HQ.out HCA.out 0 rfl
        have z1601 := row_frozen HQ.out (i * 8)
        have r1602 := row_cell HQ.out HCA.out 1 rfl
        have z1602 := row_frozen HQ.out (i * 8 + 1)
        have r1603 := row_cell HQ.out HCA.out 2 rfl
        have z1603 := row_frozen HQ.out (i * 8 + 2)
        have r1604 := row_cell HQ.out HCA.out 3 rfl
        have z1604 := row_frozen HQ.out (i * 8 + 3)
        have r1605 := row_cell HQ.out HCA.out 4 rfl
        have z1605 := row_frozen HQ.out (i * 8 + 4)
        have r1606 := row_cell HQ.out HCA.out 5 rfl
        have z1606 := row_frozen HQ.out (i * 8 + 5)
        have r1607 := row_cell HQ.out HCA.out 6 rfl
        have z1607 := row_frozen HQ.out (i * 8 + 6)
        have r1608 := row_cell HQ.out HCA.out 7 rfl
        have z1608 := row_frozen HQ.out (i * 8 + 7)
        dsimp only [Nat.add_zero] at r1601
        refine skip_ (w1 := w22.setCells gq (i * 8) [.int .i64 t.f0, .string t.f1, .int .i64 t.f2, .int .i64 t.f3.f0, .slice Q1 t.f3.f1.length cq1, .slice Q2 t.f3.f2.length cq2, .slice Q3 t.f4.length cq3, .slice Q4 t.f5.length cqt]) (by rfl) rfl (by go_simp; rfl) ?_
        obtain ⟨w23, hw⟩ : ∃ w_, w_ = w22.setCells gq (i * 8) [.int .i64 t.f0, .string t.f1, .int .i64 t.f2, .int .i64 t.f3.f0, .slice Q1 t.f3.f1.length cq1, .slice Q2 t.f3.f2.length cq2, .slice Q3 t.f4.length cq3, .slice Q4 t.f5.length cqt] := ⟨_, rfl⟩
        rw [← hw]
        replace HX := k_ (bfw hw HX.out N_gx_gq.out)
        replace HZ := k_ (bfw hw HZ.out N_gy_gq.out)
        replace HR := k_ (bfw hw HR.out N_gr_gq.out)
        replace HB := k_ (bew hw HB.out G_gq.out)
        replace LN := k_ (siw hw LN.out)
        replace HQ := k_ (show Apt w23 n1 ([.lf (.int .i64 x.f3.f0), strR (.slice P1 x.f3.f1.length q1) x.f3.f1, .row 32 3 x.f3.f2.length (.slice P2 x.f3.f2.length q2) us, strR (.slice Ao x.f4.length co) x.f4] ++ [HT.row 35 8 x.f5.length (.slice (some ⟨gq, 0, none⟩) x.f5.length cq4) (ca ++ [.lf (.int .i64 t.f0), .lf (.string t.f1), .lf (.int .i64 t.f2), .lf (.int .i64 t.f3.f0), strR (.slice Q1 t.f3.f1.length cq1) t.f3.f1, .row 32 3 t.f3.f2.length (.slice Q2 t.f3.f2.length cq2) us', strR (.slice Q3 t.f4.length cq3) t.f4, .row 35 8 t.f5.length (.slice Q4 t.f5.length cqt) ds] ++ cb)]) by rw [hw]; exact row_put HQ.out HH.out HM.out HW0.out rfl HCA.out)
        replace HG := k_ (bfw hw HG.out N_gg_gq.out)
        clear hw
        refine hK.out _ _ ?_
        clear hK K
        refine done_ (done_of HT_.out (by kernel_rfl)) ?_
        clear HT_ HW_
        clear hHeld
        try go_wp2
        go_roundg (gk - 1)
        case measure => have := HI.out; have := HD.out; omega
        case rel => exact ⟨i + 1, _, _, (by first | rfl | rw [hwi] | simp [hwi]), ⟨by have := HI.out; have := HD.out; omega⟩, ⟨by have h_ := Row_step HRW.out HD.out; rw [argF_mid (subF k) HNK.out, ← HMM.out, ← HT_E.out] at h_; exact h_⟩, ⟨TeES_put (by rw [HRW.out.1]; exact HD.out) HTA.out HEy.out HTB.out⟩, HX, HZ, HR, HG, HQ, LN, HB⟩
      ·have d3 : decide ((i : Int) < (x.f5.length : Int)) = false := decide_eq_false (by omega)
       have d4 : ((i : Int) < (x.f5.length : Int)) = False := eq_false (by omega)
       have hz : i = x.f5.length := by have := HI.out; omega
       subst hz
       clear d1
       have r1701 := blk8 HG.out
       have D_HQ_gr := k_ (show ∀ b ∈ blS ([.lf (.int .i64 x.f3.f0), strR (.slice P1 x.f3.f1.length q1) x.f3.f1, .row 32 3 x.f3.f2.length (.slice P2 x.f3.f2.length q2) us, strR (.slice Ao x.f4.length co) x.f4] ++ [HT.row 35 8 x.f5.length (.slice Q4 x.f5.length cq4) cs]), b ≠ gr from Apt_ge HQ.out L_gr.out)
       go_wp2_with (first | ((with_reducible refine gate_store (t := 35) (p := 6) rfl ?_); have r1702 := blk8 HR.out; have z1703 := blf8 HR.out; refine store_event (t := 35) (p := 6) (v := ?vo_1704) (w1 := wr.setCells gr 0 [.int .i64 x.f0, .string gn, .int .i64 x.f2, .int .i64 x.f3.f0, .slice P1 x.f3.f1.length q1, .slice P2 x.f3.f2.length q2, .slice Ao x.f4.length co, .slice Q4 x.f5.length cq4]) ?hg ?ho ?hn ?hr ?_; (case ho => rfl); (case hg => rfl); (case hn => rfl); (case hr => first | (go_simp; done) | (go_simp; rfl)); intro w20 hw; replace HX := k_ (bfw hw HX.out N_gx_gr.out); replace HZ := k_ (bfw hw HZ.out N_gy_gr.out); replace HR := k_ (show w20.heap[gr]? = some (.cells #[.int .i64 x.f0, .string gn, .int .i64 x.f2, .int .i64 x.f3.f0, .slice P1 x.f3.f1.length q1, .slice P2 x.f3.f2.length q2, .slice Ao x.f4.length co, .slice Q4 x.f5.length cq4] 35 (0, 0)) from bsw hw HR.out (by simp only [putA, sP, Nat.zero_add, Nat.reduceAdd])); replace HB := k_ (bew hw HB.out G_gr.out); replace LN := k_ (siw hw LN.out); replace HQ := k_ (apw hw HQ.out D_HQ_gr.out); replace HG := k_ (bfw hw HG.out N_gg_gr.out); clear hw; have r1705 := blk8 HR.out))
       refine bodyPost_ret (results_cell_row rfl _ _ gr 35 #[.int .i64 x.f0, .string gn, .int .i64 x.f2, .int .i64 x.f3.f0, .slice P1 x.f3.f1.length q1, .slice P2 x.f3.f2.length q2, .slice Ao x.f4.length co, .slice Q4 x.f5.length cq4] (0, 0) _ rfl HR.out Tryd.underlying35 rfl (by kernel_rfl)) rfl ?_
       have HYS := k_ (Row_end HRW.out)
       exact ⟨[.lf (.int .i64 x.f0), .lf (.string gn), .lf (.int .i64 x.f2)] ++ ([.lf (.int .i64 x.f3.f0), strR (.slice P1 x.f3.f1.length q1) x.f3.f1, .row 32 3 x.f3.f2.length (.slice P2 x.f3.f2.length q2) us, strR (.slice Ao x.f4.length co) x.f4] ++ [HT.row 35 8 x.f5.length (.slice Q4 x.f5.length cq4) cs]), rfl, (by rw [subF, if_neg HK.out, ← HGN.out]; exact (TeE_eq _ _).2 ⟨[.lf (.int .i64 x.f3.f0), strR (.slice P1 x.f3.f1.length q1) x.f3.f1, .row 32 3 x.f3.f2.length (.slice P2 x.f3.f2.length q2) us], _, _, _, (by show _ = _; rw [argsF_len]; rfl), (TyE_eq _ _).2 ⟨_, _, _, rfl, HUS.out⟩, by rw [← HYS.out]; exact HE.out⟩), Apt_lf _ rfl (Apt_lf _ rfl (Apt_lf _ rfl (Apt_lower HQ.out L_w.out))), HB.out⟩
end Go.Proofs.YtpckkjeapfdilaaDoor.Px
