/- spec.l3Copy, spec.l7Copy: what comes back lies in blocks of its own, all different. No condition beyond the sizes named. -/
import Derived.Test.YtpckkjeapfdilaaDoorZSubstTermPx0M
import Derived.Test.YtpckkjeapfdilaaDoorZSubstTermPlM
import Derived.Laws.EntriesVeiled
import Derived.Test.YtpckkjeapfdilaaDoorZSubstTermWLastM
import Derived.Tactics2
import Derived.BigCall
namespace Go.Proofs.YtpckkjeapfdilaaDoor.Px
open Go.RowKit Go.Proofs.YtpckkjeapfdilaaDoorW.PrintWords Go.Proofs.YtpckkjeapfdilaaDoorW.PrintLast Go.Proofs.YtpckkjeapfdilaaDoorW.PrintMore Go.Proofs.YtpckkjeapfdilaaDoor.Pl Go.Proofs.YtpckkjeapfdilaaDoor.Ext
set_option linter.unusedVariables false
set_option linter.unusedSimpArgs false
def mCopS0 : Array Bool := #[false, false, false, false, false, false, false, false, false, false, false, false, false, false, false, false]
def mCopS1 : Array Bool := #[true, false, false, false, false, false, false, false, false, false, false, false, false, false, false, false]
def mCopS2 : Array Bool := #[true, false, true, false, false, false, false, false, false, false, false, false, false, false, false, false]
def mCopS3 : Array Bool := #[true, false, true, false, true, false, false, false, false, false, false, false, false, false, false, false]
def mCopS4 : Array Bool := #[true, false, true, false, true, false, true, false, false, false, false, false, false, false, false, false]
def mCopS5 : Array Bool := #[true, false, true, false, true, false, true, false, false, false, true, false, false, false, false, false]
def mCopS6 : Array Bool := #[true, true, true, false, true, false, true, false, false, false, true, false, false, false, false, false]
def mCopS7 : Array Bool := #[true, true, true, true, true, false, true, false, false, false, true, false, false, false, false, false]
def mCopS8 : Array Bool := #[true, true, true, true, true, true, true, false, false, false, true, false, false, false, false, false]
def mCopS9 : Array Bool := #[true, true, true, true, true, true, true, true, false, false, true, false, false, false, false, false]
def mCopS10 : Array Bool := #[true, true, true, true, true, true, true, true, false, false, true, true, false, false, false, false]
def mCopS11 : Array Bool := #[true, true, true, true, true, true, true, true, false, false, true, true, false, false, true, false]
def mCopS12 : Array Bool := #[true, true, true, true, true, true, true, true, false, true, true, true, false, false, false, false]
def mCopS13 : Array Bool := #[true, true, true, true, true, true, true, true, true, false, true, true, false, false, false, false]
def mCopS14 : Array Bool := #[true, true, true, true, true, true, true, true, false, true, true, true, false, false, true, false]
def mCopS15 : Array Bool := #[true, true, true, true, true, true, true, true, true, true, true, true, false, false, false, false]
def mCopS16 : Array Bool := #[true, true, true, true, true, true, true, true, true, false, true, true, false, false, true, false]
def mCopS17 : Array Bool := #[true, true, true, true, true, true, true, true, true, true, true, true, true, false, false, false]
def mCopS18 : Array Bool := #[true, true, true, true, true, true, true, true, true, true, true, true, false, false, true, false]
def mCopS19 : Array Bool := #[true, true, true, true, true, true, true, true, true, true, true, true, true, false, true, false]
def mCopS20 : Array Bool := #[true, true, true, true, true, true, true, true, true, true, true, true, true, true, false, false]
def mCopS21 : Array Bool := #[true, true, true, true, true, true, true, true, true, true, true, true, true, true, true, false]
def mCopS22 : Array Bool := #[true, true, true, true, true, true, true, true, true, true, true, true, true, true, true, true]
def mCopS23 : Array Bool := #[false, false, false, false, false, false, false, false, false, false, false, false]
def mCopS24 : Array Bool := #[true, false, false, false, false, false, false, false, false, false, false, false]
def mCopS25 : Array Bool := #[true, false, true, false, false, false, false, false, false, false, false, false]
def mCopS26 : Array Bool := #[true, false, true, false, true, false, false, false, false, false, false, false]
def mCopS27 : Array Bool := #[true, true, true, false, true, false, false, false, false, false, false, false]
def mCopS28 : Array Bool := #[true, true, true, true, true, false, false, false, false, false, false, false]
def mCopS29 : Array Bool := #[true, true, true, true, true, true, false, false, false, false, false, false]
def mCopS30 : Array Bool := #[true, true, true, true, true, true, true, false, false, false, false, false]
def mCopS31 : Array Bool := #[true, true, true, true, true, true, true, true, false, false, false, false]
def mCopS32 : Array Bool := #[true, true, true, true, true, true, true, true, true, false, false, false]
def mCopS33 : Array Bool := #[true, true, true, true, true, true, true, true, true, true, false, false]
def mCopS34 : Array Bool := #[true, true, true, true, true, true, true, true, true, true, true, false]
def mCopS35 : Array Bool := #[true, true, true, true, true, true, true, true, true, true, true, true]
def mCopS36 : Array Bool := #[false, false, false, false, false, false, false, false, false]
def mCopS37 : Array Bool := #[true, false, false, false, false, false, false, false, false]
def mCopS38 : Array Bool := #[true, false, false, true, false, false, false, false, false]
def mCopS39 : Array Bool := #[true, true, false, true, false, false, false, false, false]
def mCopS40 : Array Bool := #[true, true, false, true, true, false, false, false, false]
def mCopS41 : Array Bool := #[true, true, true, true, true, false, false, false, false]
def mCopS42 : Array Bool := #[true, true, false, true, true, false, false, true, false]
def mCopS43 : Array Bool := #[true, true, true, true, true, true, false, false, false]
def mCopS44 : Array Bool := #[true, true, true, true, true, false, false, true, false]
def mCopS45 : Array Bool := #[true, true, true, true, true, true, true, false, false]
def mCopS46 : Array Bool := #[true, true, true, true, true, true, false, true, false]
def mCopS47 : Array Bool := #[true, true, true, true, true, true, true, true, false]
def mCopS48 : Array Bool := #[true, true, true, true, true, true, true, true, true]
def tabCT.T1 : Bool × List (List Nat × List Nat) := (true, [([], []), ([0], [0]), ([], []), ([], []), ([3], [3]), ([2, 4], [2, 4]), ([1, 5], [1, 5]), ([], []), ([7, 6, 5, 0, 1, 2, 3, 4, 5, 6, 7], [6, 7])])
def tabCT.B1 : List Nat := [0, 1, 0, 0, 8, 28, 63, 0, 255]
theorem tabCT.tab1 : rtab .any (opsOf Tryd.f42 1) = tabCT.T1 := by kernel_rfl
theorem tabCT.bits1 : waitsOk tabCT.T1.2 tabCT.B1 = true := by kernel_rfl
def tabCT.T5 : Bool × List (List Nat × List Nat) := (true, [([], []), ([0], [0]), ([], []), ([2], [2]), ([], []), ([3, 4], [3, 4]), ([5], [5]), ([6], [6]), ([7], [7]), ([1, 8, 7], [1, 8]), ([0, 1, 2, 3, 4, 5, 6, 7, 8, 9], []), ([10, 9, 9, 0, 1, 2, 3, 4, 5, 6, 7, 8, 9], [9, 10])])
def tabCT.B5 : List Nat := [0, 1, 0, 4, 0, 28, 60, 124, 252, 511, 1023, 2047]
theorem tabCT.tab5 : rtab .any (opsOf Tryd.f42 5) = tabCT.T5 := by kernel_rfl
theorem tabCT.bits5 : waitsOk tabCT.T5.2 tabCT.B5 = true := by kernel_rfl
set_option maxHeartbeats 8000000 in
set_option maxRecDepth 100000 in
theorem l3Copy_st : ∀ x : S32, SmType x → ∀ (A1 : Option Addr) (c1 : Nat) (A2 : Option Addr) (c2 : Nat) (w : World) (h1 : Kd.C Kd.string w A1 x.f1.length x.f1 ∧ x.f1.length ≤ c1) (h2 : Kd.C k32 w A2 x.f2.length x.f2 ∧ x.f2.length ≤ c2),
  Calls Tryd.prog 42 #[.agg #[.int .i64 x.f0, .slice A1 x.f1.length c1, .slice A2 x.f2.length c2]] w fun e w' => ∃ hs : List HT, e = .returned (.agg (hs.map HT.val).toArray) ∧ TyE x hs ∧ Apt w' w.heap.size hs ∧ Below w.heap.size w w' := by
 refine indTypeI fun x ih hs A1 c1 A2 c2 w h1 h2 => ?_
 have IH := k_ (fun y hy => ih y hy (hs.p2.2 y hy)); have SM := k_ hs; have R1 := k_ h1; have R2 := k_ h2; have HB := k_ (Below.refl w.heap.size w)
 clear ih hs h1 h2
 have hu32 := Tryd.underlying32
 go_enter Tryd.func42, Tryd.ntmps42
 go_wp2_with (first | ((with_reducible refine gate_dst (N := 1) rfl ?_); refine box_event ?hg (N := 1) ?hd (cs := #[.int .i64 x.f0, .slice A1 x.f1.length c1, .slice A2 x.f2.length c2]) (t := 32) ?hr ?_; (case hd => rfl); (case hg => rfl); (case hr => first | (go_simp; done) | (go_simp; rfl)); intro gx hg w1 hbox hb; have G_gx := k_ (nwG hg HB.out); replace HB := k_ (below_step HB.out hb); have HX := k_ hbox; clear hg hbox hb) | ((with_reducible refine gate_dst (N := 2) rfl ?_); refine box_event ?hg (N := 2) ?hd (cs := #[.int .i64 0, .slice none 0 0, .slice none 0 0]) (t := 32) ?hr ?_; (case hd => rfl); (case hg => rfl); (case hr => first | (go_simp; done) | (go_simp; rfl)); intro gr hg w2 hbox hb; have N_gx_gr := k_ (nwN hg HX.out); have N_gr_gx := k_ (Ne.symm N_gx_gr.out); have G_gr := k_ (nwG hg HB.out); replace HB := k_ (below_step HB.out hb); replace HX := k_ (blk_below HX.out hb); have HR := k_ hbox; clear hg hbox hb))
 replace HB := k_ (below_drew1 HB.out)
 replace HX := k_ (blk_drew HX.out)
 replace HR := k_ (blk_drew HR.out)
 refine start_ (n := 9) (S := fun w' => (w'.heap[gx]? = some (.cells #[.int .i64 x.f0, .slice A1 x.f1.length c1, .slice A2 x.f2.length c2] 32 (0, 0)))) (ds := []) mCopS36 (by kernel_rfl) rfl rfl (HX.out) (fun hHeld => ?_); refine with_tabW tabCT.tab1 tabCT.bits1 (fun HT_ HW_ => ?_)
 generalize w2.drew = w3 at HB HX HR hHeld ⊢
 refine pure_ (i := 0) (N := some 5) (v := ?_) (a' := ?_) mCopS37 rfl rfl (any_of HT_.out (by kernel_rfl)) (fun _ _ _ h => h) (Or.inl ⟨by rfl, ?_⟩) ?_ ?_
 rotate_left
 ·intro w'
  go_simp
  try with_reducible rfl
 rotate_left
 ·simp only [Act.put, sP]
  rfl
 refine pure_ (i := 3) (N := some 8) (v := ?_) (a' := ?_) mCopS38 rfl rfl (any_of HT_.out (by kernel_rfl)) (fun _ _ _ h => h) (Or.inl ⟨by rfl, ?_⟩) ?_ ?_
 rotate_left
 ·intro w'
  go_simp
  try with_reducible rfl
 rotate_left
 ·simp only [Act.put, sP]
  rfl
 refine take_ (i := 1) (N := some 6) (v := ?_) (a' := ?_) mCopS39 rfl rfl (take_ofW HT_.out HW_.out (by kernel_rfl)) (fun _ _ _ h => h) (Or.inl ⟨by rfl, ?_⟩) hHeld ?_ ?_
 rotate_left
 ·rintro w' s0
  have q0 := blk3 s0
  go_simp
  with_reducible rfl
 rotate_left
 ·simp only [Act.put, sP]
  rfl
 refine take_ (i := 4) (N := some 9) (v := ?_) (a' := ?_) mCopS40 rfl rfl (take_ofW HT_.out HW_.out (by kernel_rfl)) (fun _ _ _ h => h) (Or.inl ⟨by rfl, ?_⟩) hHeld ?_ ?_
 rotate_left
 ·rintro w' s0
  have q0 := blk3 s0
  go_simp
  with_reducible rfl
 rotate_left
 ·simp only [Act.put, sP]
  rfl
 refine join_ (σ := Value × Value × Nat) 1 mCopS47 (fun s_ => [(7, s_.1), (10, s_.2.1), (3, .pointer (some ⟨s_.2.2, 0, none⟩)), (11, .agg #[.int .i64 x.f0, s_.2.1, .slice none 0 0])]) (fun s_ w' => ((w'.heap[gx]? = some (.cells #[.int .i64 x.f0, .slice A1 x.f1.length c1, .slice A2 x.f2.length c2] 32 (0, 0)))) ∧ Apt w' w.heap.size [strR s_.2.1 x.f1] ∧ (∀ b ∈ blS [strR s_.2.1 x.f1], b ≠ gr) ∧ (∀ b ∈ blS [strR s_.2.1 x.f1], b ≠ s_.2.2) ∧ (w'.heap[gx]? = some (.cells #[.int .i64 x.f0, .slice A1 x.f1.length c1, .slice A2 x.f2.length c2] 32 (0, 0))) ∧ (w'.heap[gr]? = some (.cells #[.int .i64 0, .slice none 0 0, .slice none 0 0] 32 (0, 0))) ∧ (w'.heap[s_.2.2]? = some (.cells #[.int .i64 0, .slice none 0 0, .slice none 0 0] 32 (0, 0))) ∧ (Below w.heap.size w w') ∧ w.heap.size ≤ s_.2.2 ∧ gx ≠ s_.2.2 ∧ gr ≠ s_.2.2) ?_ ?_
 rotate_left
 ·intro hCont
  refine two_ (i := 2) (j := 7) (Ni := some 7) (Nj := some 3) mCopS41 mCopS42 rfl rfl rfl rfl (two_of HT_.out (by kernel_rfl)) (by decide) (by decide) (fun K hK => ?_) (fun K hK => ?_)
  ·refine Kd.R_lit_step Kd.string _ 9 ?hg (N := 7) ?hd (xs := ([] : List ByteArray)) (inner := []) (ok := fun _ => True) (okp := fun _ => True) ?hr ?hp (fun _ hk => hk) trivial (Below.refl _ _) (Nat.le_refl _) (by simp) ?_; (case hd => rfl); (case hg => rfl); (case hr => first | (go_simp; done) | (go_simp; rfl)); (case hp => exact (Reps.none _ _))
   intro v0 w4 ho hb hg_ hnew_
   clear hg_ hnew_
   have HE1 := Apt_str ho
   have D_HE0_gx := k_ (Apt_ge HE1 (blk_lt HX.out))
   have D_HE0_gr := k_ (Apt_ge HE1 (blk_lt HR.out))
   have HE2 := k_ (Apt_lower HE1 (below_size HB.out))
   replace HB := k_ (below_step HB.out hb)
   replace HX := k_ (blk_below HX.out hb)
   replace HR := k_ (blk_below HR.out hb)
   have HE0 := HE2
   clear HE1 HE2 ho hb
   refine hK.out _ _ (HX.out) (fun hHeld => ?_)
   clear hK K
   refine norm_ (a' := ?_) ?_ ?_
   rotate_left
   ·show Act.put _ (some 7) _ = _
    simp only [Act.put, sP]
    rfl
   refine two_ (i := 5) (j := 7) (Ni := some 10) (Nj := some 3) mCopS43 mCopS44 rfl rfl rfl rfl (two_of HT_.out (by kernel_rfl)) (by decide) (by decide) (fun K hK => ?_) (fun K hK => ?_)
   ·refine Kd.R_append_rows_step Kd.string (w0 := w) w.heap.size (by rfl) (.tmp 7) (.tmp 9) 22 9 (.string ⟨#[]⟩) 16 rfl Tryd.underlying22 info9 rfl (by decide) (by omega) v0 ([] : List ByteArray) x.f1 _ _ _ (fun _ => True) (fun _ => False) rfl rfl ?aO ?aR (fun _ _ h => h) (fun _ h => h.elim) ?aF ?aB ?aS ?aL ?_
    (case aR => exact Kd.C_below R1.out.1 HB.out)
    (case aB => exact HB.out)
    (case aF => exact fun _ _ => trivial)
    (case aO => exact Kd.R_mono (R_of_strR (by have := HE0.out.1; simp only [OkS, and_true] at this; exact this)) (fun _ _ => trivial))
    (case aS => exact below_size HB.out)
    (case aL => have := SM.out.p1.1; simp only [List.length_nil]; omega)
    intro v1 w5 ho hb1 hg1 hat1
    replace ho : Kd.R Kd.string 9 w5 w.heap.size (fun _ => True) v1 x.f1 := ho
    obtain ⟨Ao, co, rfl⟩ := Kd.R_slice ho
    have D_HL_gx := k_ (show ∀ b ∈ blS [strR (.slice Ao x.f1.length co) x.f1], b ≠ gx from Dgrow D_HE0_gx.out (blk_lt HX.out) hat1)
    have D_HL_gr := k_ (show ∀ b ∈ blS [strR (.slice Ao x.f1.length co) x.f1], b ≠ gr from Dgrow D_HE0_gr.out (blk_lt HR.out) hat1)
    have HL1 := k_ (Apt_str ho)
    replace HB := k_ (hb1)
    replace HX := k_ (blk_grown HX.out hg1 (fun he => D_HE0_gx.out gx (strR_own he.symm) rfl))
    replace HR := k_ (blk_grown HR.out hg1 (fun he => D_HE0_gr.out gr (strR_own he.symm) rfl))
    have HL := HL1
    clear HE0 HL1 ho hb1 hg1 hat1
    refine hK.out _ _ (HX.out) (fun hHeld => ?_)
    clear hK K
    refine norm_ (a' := ?_) ?_ ?_
    rotate_left
    ·show Act.put _ (some 10) _ = _
     simp only [Act.put, sP]
     rfl
    refine pure_ (i := 6) (N := some 11) (v := ?_) (a' := ?_) mCopS45 rfl rfl (any_of HT_.out (by kernel_rfl)) (fun _ _ _ h => h) (Or.inl ⟨by rfl, ?_⟩) ?_ ?_
    rotate_left
    ·intro w'
     go_simp
     try with_reducible rfl
    rotate_left
    ·simp only [Act.put, sP]
     rfl
    refine one_ (i := 7) (N := some 3) mCopS47 rfl rfl (one_of HT_.out (by kernel_rfl)) (by decide) (fun K hK => ?_)
    refine box_step ?hg (N := 3) ?hd (cs := #[.int .i64 0, .slice none 0 0, .slice none 0 0]) (t := 32) ?hr ?_; (case hd => rfl); (case hg => rfl); (case hr => first | (go_simp; done) | (go_simp; rfl))
    intro gb hg w6 hbox hb
    have N_gx_gb := k_ (nwN hg HX.out)
    have N_gb_gx := k_ (Ne.symm N_gx_gb.out)
    have N_gr_gb := k_ (nwN hg HR.out)
    have N_gb_gr := k_ (Ne.symm N_gr_gb.out)
    have D_HL_gb := k_ (nwD hg HL.out)
    have G_gb := k_ (nwG hg HB.out)
    replace HB := k_ (below_step HB.out hb)
    replace HX := k_ (blk_below HX.out hb)
    replace HR := k_ (blk_below HR.out hb)
    replace HL := k_ (Apt_below HL.out hb)
    have HG := k_ hbox
    clear hg hbox hb
    refine hK.out _ _ (HX.out) (fun hHeld => ?_)
    clear hK K
    refine norm_ (a' := ?_) ?_ ?_
    rotate_left
    ·show Act.put _ (some 3) _ = _
     simp only [Act.put, sP]
     rfl
    exact norm_ (by simp only [putAll, Act.put, sP]) (hCont (v0, .slice Ao x.f1.length co, gb) _ ⟨hHeld, HL.out, D_HL_gr.out, D_HL_gb.out, HX.out, HR.out, HG.out, HB.out, G_gb.out, N_gx_gb.out, N_gr_gb.out⟩)
   ·refine box_step ?hg (N := 3) ?hd (cs := #[.int .i64 0, .slice none 0 0, .slice none 0 0]) (t := 32) ?hr ?_; (case hd => rfl); (case hg => rfl); (case hr => first | (go_simp; done) | (go_simp; rfl))
    intro gb hg w5 hbox hb
    have N_gx_gb := k_ (nwN hg HX.out)
    have N_gb_gx := k_ (Ne.symm N_gx_gb.out)
    have N_gr_gb := k_ (nwN hg HR.out)
    have N_gb_gr := k_ (Ne.symm N_gr_gb.out)
    have D_HE0_gb := k_ (nwD hg HE0.out)
    have G_gb := k_ (nwG hg HB.out)
    replace HB := k_ (below_step HB.out hb)
    replace HX := k_ (blk_below HX.out hb)
    replace HR := k_ (blk_below HR.out hb)
    replace HE0 := k_ (Apt_below HE0.out hb)
    have HG := k_ hbox
    clear hg hbox hb
    refine hK.out _ _ (HX.out) (fun hHeld => ?_)
    clear hK K
    refine norm_ (a' := ?_) ?_ ?_
    rotate_left
    ·show Act.put _ (some 3) _ = _
     simp only [Act.put, sP]
     rfl
    refine one_ (i := 5) (N := some 10) mCopS46 rfl rfl (one_of HT_.out (by kernel_rfl)) (by decide) (fun K hK => ?_)
    refine Kd.R_append_rows_step Kd.string (w0 := w) w.heap.size (by rfl) (.tmp 7) (.tmp 9) 22 9 (.string ⟨#[]⟩) 16 rfl Tryd.underlying22 info9 rfl (by decide) (by omega) v0 ([] : List ByteArray) x.f1 _ _ _ (fun _ => True) (fun _ => False) rfl rfl ?aO ?aR (fun _ _ h => h) (fun _ h => h.elim) ?aF ?aB ?aS ?aL ?_
    (case aR => exact Kd.C_below R1.out.1 HB.out)
    (case aB => exact HB.out)
    (case aF => exact fun _ _ => trivial)
    (case aO => exact Kd.R_mono (R_of_strR (by have := HE0.out.1; simp only [OkS, and_true] at this; exact this)) (fun _ _ => trivial))
    (case aS => exact below_size HB.out)
    (case aL => have := SM.out.p1.1; simp only [List.length_nil]; omega)
    intro v1 w6 ho hb1 hg1 hat1
    replace ho : Kd.R Kd.string 9 w6 w.heap.size (fun _ => True) v1 x.f1 := ho
    obtain ⟨Ao, co, rfl⟩ := Kd.R_slice ho
    have D_HL_gx := k_ (show ∀ b ∈ blS [strR (.slice Ao x.f1.length co) x.f1], b ≠ gx from Dgrow D_HE0_gx.out (blk_lt HX.out) hat1)
    have D_HL_gr := k_ (show ∀ b ∈ blS [strR (.slice Ao x.f1.length co) x.f1], b ≠ gr from Dgrow D_HE0_gr.out (blk_lt HR.out) hat1)
    have D_HL_gb := k_ (show ∀ b ∈ blS [strR (.slice Ao x.f1.length co) x.f1], b ≠ gb from Dgrow D_HE0_gb.out (blk_lt HG.out) hat1)
    have HL1 := k_ (Apt_str ho)
    replace HB := k_ (hb1)
    replace HX := k_ (blk_grown HX.out hg1 (fun he => D_HE0_gx.out gx (strR_own he.symm) rfl))
    replace HR := k_ (blk_grown HR.out hg1 (fun he => D_HE0_gr.out gr (strR_own he.symm) rfl))
    replace HG := k_ (blk_grown HG.out hg1 (fun he => D_HE0_gb.out gb (strR_own he.symm) rfl))
    have HL := HL1
    clear HE0 HL1 ho hb1 hg1 hat1
    refine hK.out _ _ (HX.out) (fun hHeld => ?_)
    clear hK K
    refine norm_ (a' := ?_) ?_ ?_
    rotate_left
    ·show Act.put _ (some 10) _ = _
     simp only [Act.put, sP]
     rfl
    refine pure_ (i := 6) (N := some 11) (v := ?_) (a' := ?_) mCopS47 rfl rfl (any_of HT_.out (by kernel_rfl)) (fun _ _ _ h => h) (Or.inl ⟨by rfl, ?_⟩) ?_ ?_
    rotate_left
    ·intro w'
     go_simp
     try with_reducible rfl
    rotate_left
    ·simp only [Act.put, sP]
     rfl
    exact norm_ (by simp only [putAll, Act.put, sP]) (hCont (v0, .slice Ao x.f1.length co, gb) _ ⟨hHeld, HL.out, D_HL_gr.out, D_HL_gb.out, HX.out, HR.out, HG.out, HB.out, G_gb.out, N_gx_gb.out, N_gr_gb.out⟩)
  ·refine box_step ?hg (N := 3) ?hd (cs := #[.int .i64 0, .slice none 0 0, .slice none 0 0]) (t := 32) ?hr ?_; (case hd => rfl); (case hg => rfl); (case hr => first | (go_simp; done) | (go_simp; rfl))
   intro gb hg w4 hbox hb
   have N_gx_gb := k_ (nwN hg HX.out)
   have N_gb_gx := k_ (Ne.symm N_gx_gb.out)
   have N_gr_gb := k_ (nwN hg HR.out)
   have N_gb_gr := k_ (Ne.symm N_gr_gb.out)
   have G_gb := k_ (nwG hg HB.out)
   replace HB := k_ (below_step HB.out hb)
   replace HX := k_ (blk_below HX.out hb)
   replace HR := k_ (blk_below HR.out hb)
   have HG := k_ hbox
   clear hg hbox hb
   refine hK.out _ _ (HX.out) (fun hHeld => ?_)
   clear hK K
   refine norm_ (a' := ?_) ?_ ?_
   rotate_left
   ·show Act.put _ (some 3) _ = _
    simp only [Act.put, sP]
    rfl
   refine one_ (i := 2) (N := some 7) mCopS44 rfl rfl (one_of HT_.out (by kernel_rfl)) (by decide) (fun K hK => ?_)
   refine Kd.R_lit_step Kd.string _ 9 ?hg (N := 7) ?hd (xs := ([] : List ByteArray)) (inner := []) (ok := fun _ => True) (okp := fun _ => True) ?hr ?hp (fun _ hk => hk) trivial (Below.refl _ _) (Nat.le_refl _) (by simp) ?_; (case hd => rfl); (case hg => rfl); (case hr => first | (go_simp; done) | (go_simp; rfl)); (case hp => exact (Reps.none _ _))
   intro v0 w5 ho hb hg_ hnew_
   clear hg_ hnew_
   have HE1 := Apt_str ho
   have D_HE0_gx := k_ (Apt_ge HE1 (blk_lt HX.out))
   have D_HE0_gr := k_ (Apt_ge HE1 (blk_lt HR.out))
   have D_HE0_gb := k_ (Apt_ge HE1 (blk_lt HG.out))
   have HE2 := k_ (Apt_lower HE1 (below_size HB.out))
   replace HB := k_ (below_step HB.out hb)
   replace HX := k_ (blk_below HX.out hb)
   replace HR := k_ (blk_below HR.out hb)
   replace HG := k_ (blk_below HG.out hb)
   have HE0 := HE2
   clear HE1 HE2 ho hb
   refine hK.out _ _ (HX.out) (fun hHeld => ?_)
   clear hK K
   refine norm_ (a' := ?_) ?_ ?_
   rotate_left
   ·show Act.put _ (some 7) _ = _
    simp only [Act.put, sP]
    rfl
   refine one_ (i := 5) (N := some 10) mCopS46 rfl rfl (one_of HT_.out (by kernel_rfl)) (by decide) (fun K hK => ?_)
   refine Kd.R_append_rows_step Kd.string (w0 := w) w.heap.size (by rfl) (.tmp 7) (.tmp 9) 22 9 (.string ⟨#[]⟩) 16 rfl Tryd.underlying22 info9 rfl (by decide) (by omega) v0 ([] : List ByteArray) x.f1 _ _ _ (fun _ => True) (fun _ => False) rfl rfl ?aO ?aR (fun _ _ h => h) (fun _ h => h.elim) ?aF ?aB ?aS ?aL ?_
   (case aR => exact Kd.C_below R1.out.1 HB.out)
   (case aB => exact HB.out)
   (case aF => exact fun _ _ => trivial)
   (case aO => exact Kd.R_mono (R_of_strR (by have := HE0.out.1; simp only [OkS, and_true] at this; exact this)) (fun _ _ => trivial))
   (case aS => exact below_size HB.out)
   (case aL => have := SM.out.p1.1; simp only [List.length_nil]; omega)
   intro v1 w6 ho hb1 hg1 hat1
   replace ho : Kd.R Kd.string 9 w6 w.heap.size (fun _ => True) v1 x.f1 := ho
   obtain ⟨Ao, co, rfl⟩ := Kd.R_slice ho
   have D_HL_gx := k_ (show ∀ b ∈ blS [strR (.slice Ao x.f1.length co) x.f1], b ≠ gx from Dgrow D_HE0_gx.out (blk_lt HX.out) hat1)
   have D_HL_gr := k_ (show ∀ b ∈ blS [strR (.slice Ao x.f1.length co) x.f1], b ≠ gr from Dgrow D_HE0_gr.out (blk_lt HR.out) hat1)
   have D_HL_gb := k_ (show ∀ b ∈ blS [strR (.slice Ao x.f1.length co) x.f1], b ≠ gb from Dgrow D_HE0_gb.out (blk_lt HG.out) hat1)
   have HL1 := k_ (Apt_str ho)
   replace HB := k_ (hb1)
   replace HX := k_ (blk_grown HX.out hg1 (fun he => D_HE0_gx.out gx (strR_own he.symm) rfl))
   replace HR := k_ (blk_grown HR.out hg1 (fun he => D_HE0_gr.out gr (strR_own he.symm) rfl))
   replace HG := k_ (blk_grown HG.out hg1 (fun he => D_HE0_gb.out gb (strR_own he.symm) rfl))
   have HL := HL1
   clear HE0 HL1 ho hb1 hg1 hat1
   refine hK.out _ _ (HX.out) (fun hHeld => ?_)
   clear hK K
   refine norm_ (a' := ?_) ?_ ?_
   rotate_left
   ·show Act.put _ (some 10) _ = _
    simp only [Act.put, sP]
    rfl
   refine pure_ (i := 6) (N := some 11) (v := ?_) (a' := ?_) mCopS47 rfl rfl (any_of HT_.out (by kernel_rfl)) (fun _ _ _ h => h) (Or.inl ⟨by rfl, ?_⟩) ?_ ?_
   rotate_left
   ·intro w'
    go_simp
    try with_reducible rfl
   rotate_left
   ·simp only [Act.put, sP]
    rfl
   exact norm_ (by simp only [putAll, Act.put, sP]) (hCont (v0, .slice Ao x.f1.length co, gb) _ ⟨hHeld, HL.out, D_HL_gr.out, D_HL_gb.out, HX.out, HR.out, HG.out, HB.out, G_gb.out, N_gx_gb.out, N_gr_gb.out⟩)
 rintro ⟨v0, v1, gb⟩ w9 ⟨hHeld, h0_, h1_, h2_, h3_, h4_, h5_, h6_, h7_, h8_, h9_⟩
 dsimp only at hHeld h0_ h1_ h2_ h3_ h4_ h5_ h6_ h7_ h8_ h9_ ⊢
 obtain ⟨Ao, co, rfl⟩ := str_slice h0_
 clear HX HR HB
 have HX := k_ h3_; have HR := k_ h4_; have HG := k_ h5_; have HP := k_ h0_; have HB := k_ h6_; have D_HP_gr := k_ h1_; have D_HP_gb := k_ h2_; have G_gb := k_ h7_; have N_gx_gb := k_ h8_; have N_gr_gb := k_ h9_; have N_gb_gx := k_ (Ne.symm h8_); have N_gb_gr := k_ (Ne.symm h9_)
 clear h0_ h1_ h2_ h3_ h4_ h5_ h6_ h7_ h8_ h9_
 refine norm_ (a' := ?_) ?_ ?_
 rotate_left
 ·simp only [putAll, Act.put, sP]
  rfl
 refine one_ (i := 8) (N := none) mCopS48 rfl rfl (one_of HT_.out (by kernel_rfl)) (by decide) (fun K hK => ?_)
 have r1 := blk3 HG.out
 have z2 := blf8 HG.out
 refine skip_ (w1 := w9.setCells gb 0 [.int .i64 x.f0, .slice Ao x.f1.length co, .slice none 0 0]) (by rfl) rfl (by go_simp; rfl) ?_
 obtain ⟨w10, hw⟩ : ∃ w_, w_ = w9.setCells gb 0 [.int .i64 x.f0, .slice Ao x.f1.length co, .slice none 0 0] := ⟨_, rfl⟩
 rw [← hw]
 replace HB := k_ (bew hw HB.out G_gb.out)
 replace HX := k_ (bfw hw HX.out N_gx_gb.out)
 replace HR := k_ (bfw hw HR.out N_gr_gb.out)
 replace HG := k_ (show w10.heap[gb]? = some (.cells #[.int .i64 x.f0, .slice Ao x.f1.length co, .slice none 0 0] 32 (0, 0)) from bsw hw HG.out (by simp only [putA, sP, Nat.zero_add, Nat.reduceAdd]))
 replace HP := k_ (apw hw HP.out D_HP_gb.out)
 clear hw
 refine hK.out _ _ (HX.out) (fun hHeld => ?_)
 clear hK K
 refine done_ (done_of HT_.out (by kernel_rfl)) ?_
 clear HT_ HW_
 clear hHeld
 obtain ⟨n1, hn1⟩ : ∃ n, n = w10.heap.size := ⟨_, rfl⟩
 have L_gx := k_ (limB hn1 HX.out)
 have L_gr := k_ (limB hn1 HR.out)
 have L_gb := k_ (limB hn1 HG.out)
 have L_HP := k_ (limA hn1 HP.out)
 have L_w := k_ (limW hn1 HB.out)
 have LN := k_ (show n1 ≤ w10.heap.size by rw [hn1]; exact Nat.le_refl _)
 try go_wp2
 go_loopg [4] x.f2.length (fun gq v4 w' => ∃ (i : Nat) (cs : List HT) (u : Value), v4 = .int .i64 (i : Int) ∧ Aside0 (i + gq = x.f2.length) ∧ Aside0 (TyES (x.f2.take i) cs) ∧ Aside0 (Apt w' n1 [HT.row 32 3 i u cs]) ∧ Aside0 (w'.heap[gx]? = some (.cells #[.int .i64 x.f0, .slice A1 x.f1.length c1, .slice A2 x.f2.length c2] 32 (0, 0))) ∧ Aside0 (w'.heap[gr]? = some (.cells #[.int .i64 0, .slice none 0 0, .slice none 0 0] 32 (0, 0))) ∧ Aside0 (w'.heap[gb]? = some (.cells #[.int .i64 x.f0, .slice Ao x.f1.length co, u] 32 (0, 0))) ∧ Aside0 (Apt w' w.heap.size [strR (.slice Ao x.f1.length co) x.f1]) ∧ Aside0 (Below w.heap.size w w') ∧ Aside0 (n1 ≤ w'.heap.size))
 case atStart => exact ⟨0, [], .slice none 0 0, rfl, ⟨by omega⟩, ⟨by simp [TyES]⟩, ⟨row_nil _ _ _ _⟩, HX, HR, HG, HP, HB, LN⟩
 case round =>
  clear HX HR HG HP HB LN
  obtain ⟨i, cs, u, rfl, HI, HE, HQ, HX, HR, HG, HP, HB, LN⟩ := hrel
  obtain ⟨Au, cu, rfl⟩ := row_slice HQ.out
  have D_HQ_gx := k_ (Apt_ge HQ.out L_gx.out)
  have D_HQ_gr := k_ (Apt_ge HQ.out L_gr.out)
  have D_HQ_gb := k_ (Apt_ge HQ.out L_gb.out)
  by_cases d1 : i < x.f2.length
  ·have HD := k_ d1
   have d2 : (i : Int) < (x.f2.length : Int) := by omega
   have d3 : decide ((i : Int) < (x.f2.length : Int)) = true := decide_eq_true d2
   have d4 := eq_true d2
   have d5 : (0 ≤ (i : Int)) = True := eq_true (by omega)
   obtain ⟨ad, B1, e1, B2, e2, eA, y0, y1, y2, m1, o1, m2, o2⟩ := at_T32 R2.out.1 (i : Int) (by omega) d2
   cases eA
   obtain ⟨y, hy⟩ : ∃ y, y = rd_T32 x.f2 (i : Int) := ⟨_, rfl⟩
   rw [← hy] at y0 y1 y2 m1 o1 m2 o2
   have HY := k_ (show y = x.f2.getD i z32 by rw [hy]; rfl)
   simp only [Int.toNat_natCast] at y0 y1 y2
   have M1 := k_ (And.intro o1 m1); have M2 := k_ (And.intro o2 m2)
   clear m1 o1 m2 o2 hy d1
   have hwi : wrap64 ((i : Int) + 1) = ((i + 1 : Nat) : Int) := by have h1 := SM.out.p2.1; have h2 := HD.out; unfold wrap64; omega
   have r3 := blk3 HX.out
   try go_wp2
   replace HX := k_ (blk_drew HX.out)
   replace HR := k_ (blk_drew HR.out)
   replace HG := k_ (blk_drew HG.out)
   replace HP := k_ (Apt_below HP.out (below_drew1 (Below.refl _ _)))
   replace HB := k_ (below_drew1 HB.out)
   replace LN := k_ (show n1 ≤ wr.drew.heap.size from LN.out)
   replace HQ := k_ (Apt_below HQ.out (below_drew1 (Below.refl _ _)))
   refine start_ (n := 12) (S := fun w' => (w'.heap[gb]? = some (.cells #[.int .i64 x.f0, .slice Ao x.f1.length co, .slice Au i cu] 32 (0, 0))) ∧ (w'.heap[gx]? = some (.cells #[.int .i64 x.f0, .slice A1 x.f1.length c1, .slice (some ad) x.f2.length c2] 32 (0, 0))) ∧ w'.cell? (ad.add (i * 3)) = some (.int .i64 y.f0) ∧ w'.cell? ⟨(ad.add (i * 3)).block, (ad.add (i * 3)).off + 1, none⟩ = some (.slice B1 y.f1.length e1) ∧ w'.cell? ⟨(ad.add (i * 3)).block, (ad.add (i * 3)).off + 2, none⟩ = some (.slice B2 y.f2.length e2)) (ds := [11]) mCopS23 (by kernel_rfl) rfl rfl ⟨HG.out, HX.out, pw_cell_below HB.out y0, pw_cell_below HB.out y1, pw_cell_below HB.out y2⟩ (fun hHeld => ?_); refine with_tabW tabCT.tab5 tabCT.bits5 (fun HT_ HW_ => ?_)
   generalize wr.drew = w11 at HX HR HG HP HB LN HQ hHeld ⊢
   refine pure_ (i := 0) (N := some 19) (v := ?_) (a' := ?_) mCopS24 rfl rfl (any_of HT_.out (by kernel_rfl)) (fun _ _ _ h => h) (Or.inl ⟨by rfl, ?_⟩) ?_ ?_
   rotate_left
   ·intro w'
    go_simp
    try with_reducible rfl
   rotate_left
   ·simp only [Act.put, sP]
    rfl
   refine pure_ (i := 2) (N := some 21) (v := ?_) (a' := ?_) mCopS25 rfl rfl (any_of HT_.out (by kernel_rfl)) (fun _ _ _ h => h) (Or.inl ⟨by rfl, ?_⟩) ?_ ?_
   rotate_left
   ·intro w'
    go_simp
    try with_reducible rfl
   rotate_left
   ·simp only [Act.put, sP]
    rfl
   refine pure_ (i := 4) (N := some 23) (v := ?_) (a' := ?_) mCopS26 rfl rfl (any_of HT_.out (by kernel_rfl)) (fun _ _ _ h => h) (Or.inl ⟨by rfl, ?_⟩) ?_ ?_
   rotate_left
   ·intro w'
    go_simp
    try with_reducible rfl
   rotate_left
   ·simp only [Act.put, sP]
    rfl
   refine take_ (i := 1) (N := some 20) (v := ?_) (a' := ?_) mCopS27 rfl rfl (take_ofW HT_.out HW_.out (by kernel_rfl)) (fun _ _ _ h => h) (Or.inl ⟨by rfl, ?_⟩) hHeld ?_ ?_
   rotate_left
   ·rintro w' ⟨s0, s1, s2, s3, s4⟩
    have q0 := blk3 s0
    have q1 := blk3 s1
    go_simp
    with_reducible rfl
   rotate_left
   ·simp only [Act.put, sP]
    rfl
   refine take_ (i := 3) (N := some 22) (v := ?_) (a' := ?_) mCopS28 rfl rfl (take_ofW HT_.out HW_.out (by kernel_rfl)) (fun _ _ _ h => h) (Or.inl ⟨by rfl, ?_⟩) hHeld ?_ ?_
   rotate_left
   ·rintro w' ⟨s0, s1, s2, s3, s4⟩
    have q0 := blk3 s0
    have q1 := blk3 s1
    go_simp
    with_reducible rfl
   rotate_left
   ·simp only [Act.put, sP]
    rfl
   refine pure_ (i := 5) (N := some 24) (v := ?_) (a' := ?_) mCopS29 rfl rfl (any_of HT_.out (by kernel_rfl)) (fun _ _ _ h => h) (Or.inl ⟨by rfl, ?_⟩) ?_ ?_
   rotate_left
   ·intro w'
    go_simp
    try with_reducible rfl
   rotate_left
   ·simp only [Act.put, sP]
    rfl
   refine take_ (i := 6) (N := some 25) (v := ?_) (a' := ?_) mCopS30 rfl rfl (take_ofW HT_.out HW_.out (by kernel_rfl)) (fun _ _ _ h => h) (Or.inl ⟨by rfl, ?_⟩) hHeld ?_ ?_
   rotate_left
   ·rintro w' ⟨s0, s1, s2, s3, s4⟩
    have q0 := blk3 s0
    have q1 := blk3 s1
    go_simp
    with_reducible rfl
   rotate_left
   ·simp only [Act.put, sP]
    rfl
   refine one_ (i := 7) (N := some 26) mCopS31 rfl rfl (one_of HT_.out (by kernel_rfl)) (by decide) (fun K hK => ?_)
   have HM := k_ (Apt_lt HQ.out)
   have HW0 := k_ (show n1 ≤ w11.heap.size from LN.out)
   refine goes_ Tryd.func42 (by kernel_rfl) rfl #[.agg #[.int .i64 y.f0, .slice B1 y.f1.length e1, .slice B2 y.f2.length e2]] (by rfl) rfl rfl (by (try simp only [List.map_toArray, List.map_cons, List.map_nil]); first | done | rfl) ?_
   refine (IH.out y (by rw [HY.out]; exact mem_getD x.f2 z32 i HD.out) B1 e1 B2 e2 _ ⟨Kd.C_below M1.out.1 HB.out, M1.out.2⟩ ⟨Kd.C_below M2.out.1 HB.out, M2.out.2⟩).mono ?_
   rintro e w12 ⟨hs, rfl, hE, hA, hb⟩
   obtain ⟨Q1, cq1, Q2, cq2, ds, rfl, hds⟩ := TyE_open hE hA
   refine ⟨.agg #[.int .i64 y.f0, .slice Q1 y.f1.length cq1, .slice Q2 y.f2.length cq2], rfl, ?_⟩
   replace HX := k_ (blk_below HX.out hb)
   replace HR := k_ (blk_below HR.out hb)
   replace HG := k_ (blk_below HG.out hb)
   replace HP := k_ (Apt_below HP.out hb)
   replace HB := k_ (below_step HB.out hb)
   replace LN := k_ (Nat.le_trans LN.out (below_size hb))
   replace HQ := k_ (Apt_below HQ.out hb)
   have HW1 := k_ (show n1 ≤ w12.heap.size from LN.out)
   have HH := k_ hA; have HEy := k_ hE
   clear hA hE hds hb
   refine hK.out _ _ ⟨HG.out, HX.out, pw_cell_below HB.out y0, pw_cell_below HB.out y1, pw_cell_below HB.out y2⟩ (fun hHeld => ?_)
   clear hK K
   refine norm_ (a' := ?_) ?_ ?_
   rotate_left
   ·show Act.put _ (some 26) _ = _
    simp only [Act.put, sP]
    rfl
   refine one_ (i := 8) (N := some 27) mCopS32 rfl rfl (one_of HT_.out (by kernel_rfl)) (by decide) (fun K hK => ?_)
   refine value_ (w1 := ?_) (v := ?_) (by rfl) rfl ?_ ?_
   rotate_left 2
   ·go_simp
    constructor
    ·rfl
    ·rfl
   refine hK.out _ _ ⟨blk_alloc HG.out _, blk_alloc HX.out _, pw_cell_below (below_alloc HB.out _) y0, pw_cell_below (below_alloc HB.out _) y1, pw_cell_below (below_alloc HB.out _) y2⟩ (fun hHeld => ?_)
   clear hK K
   refine norm_ (a' := ?_) ?_ ?_
   rotate_left
   ·show Act.put _ (some 27) _ = _
    simp only [Act.put, sP]
    rfl
   refine one_ (i := 9) (N := some 28) mCopS33 rfl rfl (one_of HT_.out (by kernel_rfl)) (by decide) (fun K hK => ?_)
   refine step_append_cells (w0 := w) w.heap.size (by rfl) (.tmp 20) (.tmp 27) 30 32 (.agg #[.int .i64 0, .slice none 0 0, .slice none 0 0]) 3 56 rfl Tryd.underlying30 info32 rfl (by decide) (by decide) (.slice Au i cu) i (cs.map HT.val) (List.map HT.val [.lf (.int .i64 y.f0), strR (.slice Q1 y.f1.length cq1) y.f1, .row 32 3 y.f2.length (.slice Q2 y.f2.length cq2) ds]) rfl rfl rfl (OkS_one HH.out.1) (own_weaken (row_cells HQ.out) L_w.out) HB.out (below_size HB.out) (by have := SM.out.p2.1; have := HD.out; omega) ?_
   intro u1 w13 ho1 hb1 hg1 hat1
   obtain ⟨Av, cv, rfl⟩ := own_slice ho1
   have HQ1 := k_ (row_append HQ.out HH.out HM.out HW0.out HW1.out ho1 hg1 hat1)
   replace HX := k_ (blk_grown HX.out hg1 (fun he => D_HQ_gx.out gx (row_own he.symm) rfl))
   replace HR := k_ (blk_grown HR.out hg1 (fun he => D_HQ_gr.out gr (row_own he.symm) rfl))
   replace HG := k_ (blk_grown HG.out hg1 (fun he => D_HQ_gb.out gb (row_own he.symm) rfl))
   replace HP := k_ (Apt_grown HP.out hg1 (fun b hb he => by have h1 := L_HP.out b hb; have h2 := (OkS_in _ HQ.out.1 b (row_own he.symm)).1; omega))
   replace HB := k_ (hb1)
   replace LN := k_ (Nat.le_trans LN.out hg1.size)
   clear HQ HH HM HW0 HW1 D_HQ_gx D_HQ_gr D_HQ_gb
   have HQ := HQ1
   clear HQ1 ho1 hb1 hg1 hat1
   have D_HQ_gx := k_ (Apt_ge HQ.out L_gx.out)
   have D_HQ_gr := k_ (Apt_ge HQ.out L_gr.out)
   have D_HQ_gb := k_ (Apt_ge HQ.out L_gb.out)
   refine hK.out _ _ ⟨HG.out, HX.out, pw_cell_below HB.out y0, pw_cell_below HB.out y1, pw_cell_below HB.out y2⟩ (fun hHeld => ?_)
   clear hK K
   refine norm_ (a' := ?_) ?_ ?_
   rotate_left
   ·show Act.put _ (some 28) _ = _
    simp only [Act.put, sP]
    rfl
   refine pure_ (i := 10) (N := some 29) (v := ?_) (a' := ?_) mCopS34 rfl rfl (any_of HT_.out (by kernel_rfl)) (fun _ _ _ h => h) (Or.inl ⟨by rfl, ?_⟩) ?_ ?_
   rotate_left
   ·intro w'
    go_simp
    try with_reducible rfl
   rotate_left
   ·simp only [Act.put, sP]
    rfl
   refine last_ (i := 11) (N := none) mCopS35 rfl rfl (one_of HT_.out (by kernel_rfl)) (by decide) (fun K hK => ?_)
   have r4 := blk3 HG.out
   have z5 := blf8 HG.out
   refine skip_ (w1 := w13.setCells gb 2 [.slice Av (i + 1) cv]) (by rfl) rfl (by go_simp; rfl) ?_
   obtain ⟨w14, hw⟩ : ∃ w_, w_ = w13.setCells gb 2 [.slice Av (i + 1) cv] := ⟨_, rfl⟩
   rw [← hw]
   replace HX := k_ (bfw hw HX.out N_gx_gb.out)
   replace HR := k_ (bfw hw HR.out N_gr_gb.out)
   replace HG := k_ (show w14.heap[gb]? = some (.cells #[.int .i64 x.f0, .slice Ao x.f1.length co, .slice Av (i + 1) cv] 32 (0, 0)) from bsw hw HG.out (by simp only [putA, sP, Nat.zero_add, Nat.reduceAdd]))
   replace HP := k_ (apw hw HP.out D_HP_gb.out)
   replace HB := k_ (bew hw HB.out G_gb.out)
   replace LN := k_ (siw hw LN.out)
   replace HQ := k_ (apw hw HQ.out D_HQ_gb.out)
   clear hw
   refine hK.out _ _ ?_
   clear hK K
   refine done_ (done_of HT_.out (by kernel_rfl)) ?_
   clear HT_ HW_
   try go_wp2
   go_roundg (gk - 1)
   case measure => have := HI.out; have := HD.out; omega
   case rel => exact ⟨i + 1, _, _, (by first | rfl | rw [hwi] | simp [hwi]), ⟨by have := HI.out; have := HD.out; omega⟩, ⟨by rw [take_one x.f2 z32 i HD.out, ← HY.out]; exact TyES_snoc _ _ _ _ HE.out HEy.out⟩, HQ, HX, HR, HG, HP, HB, LN⟩
  ·have d3 : decide ((i : Int) < (x.f2.length : Int)) = false := decide_eq_false (by omega)
   have d4 : ((i : Int) < (x.f2.length : Int)) = False := eq_false (by omega)
   have hz : i = x.f2.length := by have := HI.out; omega
   subst hz
   rw [List.take_length] at HE
   clear d1
   have r6 := blk3 HG.out
   have r7 := blk3 HX.out
   go_wp2_with (first | ((with_reducible refine gate_store (t := 32) (p := 2) rfl ?_); have r8 := blk3 HR.out; have z9 := blf8 HR.out; refine store_event (t := 32) (p := 2) (v := ?vo_10) (w1 := wr.setCells gr 0 [.int .i64 x.f0, .slice Ao x.f1.length co, .slice Au x.f2.length cu]) ?hg ?ho ?hn ?hr ?_; (case ho => rfl); (case hg => rfl); (case hn => rfl); (case hr => first | (go_simp; done) | (go_simp; rfl)); intro w11 hw; replace HX := k_ (bfw hw HX.out N_gx_gr.out); replace HR := k_ (show w11.heap[gr]? = some (.cells #[.int .i64 x.f0, .slice Ao x.f1.length co, .slice Au x.f2.length cu] 32 (0, 0)) from bsw hw HR.out (by simp only [putA, sP, Nat.zero_add, Nat.reduceAdd])); replace HG := k_ (bfw hw HG.out N_gb_gr.out); replace HP := k_ (apw hw HP.out D_HP_gr.out); replace HB := k_ (bew hw HB.out G_gr.out); replace LN := k_ (siw hw LN.out); replace HQ := k_ (apw hw HQ.out D_HQ_gr.out); clear hw; have r11 := blk3 HR.out))
   refine bodyPost_ret (results_cell_row rfl _ _ gr 32 #[.int .i64 x.f0, .slice Ao x.f1.length co, .slice Au x.f2.length cu] (0, 0) _ rfl HR.out Tryd.underlying32 rfl (by kernel_rfl)) rfl ?_
   exact ⟨[.lf (.int .i64 x.f0), strR (.slice Ao x.f1.length co) x.f1, .row 32 3 x.f2.length (.slice Au x.f2.length cu) cs], rfl, (TyE_eq _ _).2 ⟨_, _, _, rfl, HE.out⟩, Apt_join (a := [.lf (.int .i64 x.f0), strR (.slice Ao x.f1.length co) x.f1]) (Apt_lf _ rfl HP.out) HQ.out (fun b hb => L_HP.out b (by rwa [blS_lf] at hb)) L_w.out, HB.out⟩
def tabCE.T1 : Bool × List (List Nat × List Nat) := (true, [([], []), ([0], [0]), ([], []), ([2], [2]), ([], []), ([4], [4]), ([], []), ([6], [6]), ([7], [7]), ([], []), ([], []), ([10], [10]), ([9, 11, 8], [9, 11]), ([1, 3, 5, 8, 12], [1, 3, 5, 8, 12]), ([], []), ([14, 13, 12, 0, 1, 2, 3, 4, 5, 6, 7, 8, 9, 10, 11, 12, 13, 14], [13, 14])])
def tabCE.B1 : List Nat := [0, 1, 0, 4, 0, 16, 0, 64, 192, 0, 0, 1024, 4032, 8191, 0, 32767]
theorem tabCE.tab1 : rtab .any (opsOf Tryd.f14 1) = tabCE.T1 := by kernel_rfl
theorem tabCE.bits1 : waitsOk tabCE.T1.2 tabCE.B1 = true := by kernel_rfl
def tabCE.T5 : Bool × List (List Nat × List Nat) := (true, [([], []), ([0], [0]), ([], []), ([2], [2]), ([], []), ([3, 4], [3, 4]), ([5], [5]), ([6], [6]), ([7], [7]), ([1, 8, 7], [1, 8]), ([0, 1, 2, 3, 4, 5, 6, 7, 8, 9], []), ([10, 9, 9, 0, 1, 2, 3, 4, 5, 6, 7, 8, 9], [9, 10])])
def tabCE.B5 : List Nat := [0, 1, 0, 4, 0, 28, 60, 124, 252, 511, 1023, 2047]
theorem tabCE.tab5 : rtab .any (opsOf Tryd.f14 5) = tabCE.T5 := by kernel_rfl
theorem tabCE.bits5 : waitsOk tabCE.T5.2 tabCE.B5 = true := by kernel_rfl
set_option maxHeartbeats 8000000 in
set_option maxRecDepth 100000 in
theorem l7Copy_st : ∀ x : S35, SmTerm x → ∀ (A1 : Option Addr) (c1 : Nat) (A2 : Option Addr) (c2 : Nat) (A3 : Option Addr) (c3 : Nat) (A4 : Option Addr) (c4 : Nat) (w : World) (h1 : Kd.C Kd.string w A1 x.f3.f1.length x.f3.f1 ∧ x.f3.f1.length ≤ c1) (h2 : Kd.C k32 w A2 x.f3.f2.length x.f3.f2 ∧ x.f3.f2.length ≤ c2) (h3 : Kd.C Kd.string w A3 x.f4.length x.f4 ∧ x.f4.length ≤ c3) (h4 : Kd.C k35 w A4 x.f5.length x.f5 ∧ x.f5.length ≤ c4),
  Calls Tryd.prog 14 #[.agg #[.int .i64 x.f0, .string x.f1, .int .i64 x.f2, .int .i64 x.f3.f0, .slice A1 x.f3.f1.length c1, .slice A2 x.f3.f2.length c2, .slice A3 x.f4.length c3, .slice A4 x.f5.length c4]] w fun e w' => ∃ hs : List HT, e = .returned (.agg (hs.map HT.val).toArray) ∧ TeE x hs ∧ Apt w' w.heap.size hs ∧ Below w.heap.size w w' := by
 refine indTermI fun x ih hs A1 c1 A2 c2 A3 c3 A4 c4 w h1 h2 h3 h4 => ?_
 have IH := k_ (fun y hy => ih y hy (hs.p5.2 y hy)); have SM := k_ hs; have R1 := k_ h1; have R2 := k_ h2; have R3 := k_ h3; have R4 := k_ h4; have HB := k_ (Below.refl w.heap.size w)
 clear ih hs h1 h2 h3 h4
 have hu32 := Tryd.underlying32
 have hu35 := Tryd.underlying35
 go_enter Tryd.func14, Tryd.ntmps14
 go_wp2_with (first | ((with_reducible refine gate_dst (N := 1) rfl ?_); refine box_event ?hg (N := 1) ?hd (cs := #[.int .i64 x.f0, .string x.f1, .int .i64 x.f2, .int .i64 x.f3.f0, .slice A1 x.f3.f1.length c1, .slice A2 x.f3.f2.length c2, .slice A3 x.f4.length c3, .slice A4 x.f5.length c4]) (t := 35) ?hr ?_; (case hd => rfl); (case hg => rfl); (case hr => first | (go_simp; done) | (go_simp; rfl)); intro gx hg w1 hbox hb; have G_gx := k_ (nwG hg HB.out); replace HB := k_ (below_step HB.out hb); have HX := k_ hbox; clear hg hbox hb) | ((with_reducible refine gate_dst (N := 2) rfl ?_); refine box_event ?hg (N := 2) ?hd (cs := #[.int .i64 0, .string ⟨#[]⟩, .int .i64 0, .int .i64 0, .slice none 0 0, .slice none 0 0, .slice none 0 0, .slice none 0 0]) (t := 35) ?hr ?_; (case hd => rfl); (case hg => rfl); (case hr => first | (go_simp; done) | (go_simp; rfl)); intro gr hg w2 hbox hb; have N_gx_gr := k_ (nwN hg HX.out); have N_gr_gx := k_ (Ne.symm N_gx_gr.out); have G_gr := k_ (nwG hg HB.out); replace HB := k_ (below_step HB.out hb); replace HX := k_ (blk_below HX.out hb); have HR := k_ hbox; clear hg hbox hb))
 replace HB := k_ (below_drew1 HB.out)
 replace HX := k_ (blk_drew HX.out)
 replace HR := k_ (blk_drew HR.out)
 refine start_ (n := 16) (S := fun w' => (w'.heap[gx]? = some (.cells #[.int .i64 x.f0, .string x.f1, .int .i64 x.f2, .int .i64 x.f3.f0, .slice A1 x.f3.f1.length c1, .slice A2 x.f3.f2.length c2, .slice A3 x.f4.length c3, .slice A4 x.f5.length c4] 35 (0, 0)))) (ds := []) mCopS0 (by kernel_rfl) rfl rfl (HX.out) (fun hHeld => ?_); refine with_tabW tabCE.tab1 tabCE.bits1 (fun HT_ HW_ => ?_)
 generalize w2.drew = w3 at HB HX HR hHeld ⊢
 refine pure_ (i := 0) (N := some 5) (v := ?_) (a' := ?_) mCopS1 rfl rfl (any_of HT_.out (by kernel_rfl)) (fun _ _ _ h => h) (Or.inl ⟨by rfl, ?_⟩) ?_ ?_
 rotate_left
 ·intro w'
  go_simp
  try with_reducible rfl
 rotate_left
 ·simp only [Act.put, sP]
  rfl
 refine pure_ (i := 2) (N := some 7) (v := ?_) (a' := ?_) mCopS2 rfl rfl (any_of HT_.out (by kernel_rfl)) (fun _ _ _ h => h) (Or.inl ⟨by rfl, ?_⟩) ?_ ?_
 rotate_left
 ·intro w'
  go_simp
  try with_reducible rfl
 rotate_left
 ·simp only [Act.put, sP]
  rfl
 refine pure_ (i := 4) (N := some 9) (v := ?_) (a' := ?_) mCopS3 rfl rfl (any_of HT_.out (by kernel_rfl)) (fun _ _ _ h => h) (Or.inl ⟨by rfl, ?_⟩) ?_ ?_
 rotate_left
 ·intro w'
  go_simp
  try with_reducible rfl
 rotate_left
 ·simp only [Act.put, sP]
  rfl
 refine pure_ (i := 6) (N := some 11) (v := ?_) (a' := ?_) mCopS4 rfl rfl (any_of HT_.out (by kernel_rfl)) (fun _ _ _ h => h) (Or.inl ⟨by rfl, ?_⟩) ?_ ?_
 rotate_left
 ·intro w'
  go_simp
  try with_reducible rfl
 rotate_left
 ·simp only [Act.put, sP]
  rfl
 refine pure_ (i := 10) (N := some 15) (v := ?_) (a' := ?_) mCopS5 rfl rfl (any_of HT_.out (by kernel_rfl)) (fun _ _ _ h => h) (Or.inl ⟨by rfl, ?_⟩) ?_ ?_
 rotate_left
 ·intro w'
  go_simp
  try with_reducible rfl
 rotate_left
 ·simp only [Act.put, sP]
  rfl
 refine take_ (i := 1) (N := some 6) (v := ?_) (a' := ?_) mCopS6 rfl rfl (take_ofW HT_.out HW_.out (by kernel_rfl)) (fun _ _ _ h => h) (Or.inl ⟨by rfl, ?_⟩) hHeld ?_ ?_
 rotate_left
 ·rintro w' s0
  have q0 := blk8 s0
  go_simp
  with_reducible rfl
 rotate_left
 ·simp only [Act.put, sP]
  rfl
 refine take_ (i := 3) (N := some 8) (v := ?_) (a' := ?_) mCopS7 rfl rfl (take_ofW HT_.out HW_.out (by kernel_rfl)) (fun _ _ _ h => h) (Or.inl ⟨by rfl, ?_⟩) hHeld ?_ ?_
 rotate_left
 ·rintro w' s0
  have q0 := blk8 s0
  go_simp
  with_reducible rfl
 rotate_left
 ·simp only [Act.put, sP]
  rfl
 refine take_ (i := 5) (N := some 10) (v := ?_) (a' := ?_) mCopS8 rfl rfl (take_ofW HT_.out HW_.out (by kernel_rfl)) (fun _ _ _ h => h) (Or.inl ⟨by rfl, ?_⟩) hHeld ?_ ?_
 rotate_left
 ·rintro w' s0
  have q0 := blk8 s0
  go_simp
  with_reducible rfl
 rotate_left
 ·simp only [Act.put, sP]
  rfl
 refine take_ (i := 7) (N := some 12) (v := ?_) (a' := ?_) mCopS9 rfl rfl (take_ofW HT_.out HW_.out (by kernel_rfl)) (fun _ _ _ h => h) (Or.inl ⟨by rfl, ?_⟩) hHeld ?_ ?_
 rotate_left
 ·rintro w' s0
  have q0 := blk8 s0
  go_simp
  with_reducible rfl
 rotate_left
 ·simp only [Act.put, sP]
  rfl
 refine take_ (i := 11) (N := some 16) (v := ?_) (a' := ?_) mCopS10 rfl rfl (take_ofW HT_.out HW_.out (by kernel_rfl)) (fun _ _ _ h => h) (Or.inl ⟨by rfl, ?_⟩) hHeld ?_ ?_
 rotate_left
 ·rintro w' s0
  have q0 := blk8 s0
  go_simp
  with_reducible rfl
 rotate_left
 ·simp only [Act.put, sP]
  rfl
 refine join_ (σ := Value × Value × Value × List HT × Value × Nat) 1 mCopS21 (fun s_ => [(13, .agg #[.int .i64 x.f3.f0, s_.1, s_.2.1]), (14, s_.2.2.2.2.1), (17, s_.2.2.1), (3, .pointer (some ⟨s_.2.2.2.2.2, 0, none⟩)), (18, .agg #[.int .i64 x.f0, .string x.f1, .int .i64 x.f2, .int .i64 x.f3.f0, s_.1, s_.2.1, s_.2.2.1, .slice none 0 0])]) (fun s_ w' => ((w'.heap[gx]? = some (.cells #[.int .i64 x.f0, .string x.f1, .int .i64 x.f2, .int .i64 x.f3.f0, .slice A1 x.f3.f1.length c1, .slice A2 x.f3.f2.length c2, .slice A3 x.f4.length c3, .slice A4 x.f5.length c4] 35 (0, 0)))) ∧ Apt w' w.heap.size [.lf (.int .i64 x.f3.f0), strR s_.1 x.f3.f1, .row 32 3 x.f3.f2.length s_.2.1 s_.2.2.2.1, strR s_.2.2.1 x.f4] ∧ (∀ b ∈ blS [.lf (.int .i64 x.f3.f0), strR s_.1 x.f3.f1, .row 32 3 x.f3.f2.length s_.2.1 s_.2.2.2.1, strR s_.2.2.1 x.f4], b ≠ gr) ∧ (∀ b ∈ blS [.lf (.int .i64 x.f3.f0), strR s_.1 x.f3.f1, .row 32 3 x.f3.f2.length s_.2.1 s_.2.2.2.1, strR s_.2.2.1 x.f4], b ≠ s_.2.2.2.2.2) ∧ TyES x.f3.f2 s_.2.2.2.1 ∧ (w'.heap[gx]? = some (.cells #[.int .i64 x.f0, .string x.f1, .int .i64 x.f2, .int .i64 x.f3.f0, .slice A1 x.f3.f1.length c1, .slice A2 x.f3.f2.length c2, .slice A3 x.f4.length c3, .slice A4 x.f5.length c4] 35 (0, 0))) ∧ (w'.heap[gr]? = some (.cells #[.int .i64 0, .string ⟨#[]⟩, .int .i64 0, .int .i64 0, .slice none 0 0, .slice none 0 0, .slice none 0 0, .slice none 0 0] 35 (0, 0))) ∧ (w'.heap[s_.2.2.2.2.2]? = some (.cells #[.int .i64 0, .string ⟨#[]⟩, .int .i64 0, .int .i64 0, .slice none 0 0, .slice none 0 0, .slice none 0 0, .slice none 0 0] 35 (0, 0))) ∧ (Below w.heap.size w w') ∧ w.heap.size ≤ s_.2.2.2.2.2 ∧ gx ≠ s_.2.2.2.2.2 ∧ gr ≠ s_.2.2.2.2.2) ?_ ?_
 rotate_left
 ·intro hCont
  refine three_ (i := 8) (j := 9) (k := 14) (Ni := some 13) (Nj := some 14) (Nk := some 3) mCopS13 mCopS12 mCopS11 rfl rfl rfl rfl rfl rfl (three_of HT_.out (by kernel_rfl)) (by decide) (by decide) (by decide) (fun K hK => ?_) (fun K hK => ?_) (fun K hK => ?_)
  ·refine goes_ Tryd.func42 (by kernel_rfl) rfl #[.agg #[.int .i64 x.f3.f0, .slice A1 x.f3.f1.length c1, .slice A2 x.f3.f2.length c2]] (by rfl) rfl rfl (by (try simp only [List.map_toArray, List.map_cons, List.map_nil]); first | done | rfl) ?_
   refine (l3Copy_st x.f3 SM.out.p3 A1 c1 A2 c2 _ ⟨Kd.C_below R1.out.1 HB.out, R1.out.2⟩ ⟨Kd.C_below R2.out.1 HB.out, R2.out.2⟩).mono ?_
   rintro e w4 ⟨hs, rfl, hE, hA, hb⟩
   obtain ⟨P1, q1, P2, q2, us, rfl, hus⟩ := TyE_open hE hA
   refine ⟨.agg #[.int .i64 x.f3.f0, .slice P1 x.f3.f1.length q1, .slice P2 x.f3.f2.length q2], rfl, ?_⟩
   have HUS := k_ hus
   have D_HT_gx := k_ (Apt_ge hA (blk_lt HX.out))
   have D_HT_gr := k_ (Apt_ge hA (blk_lt HR.out))
   have HT1 := k_ (Apt_lower hA (below_size HB.out))
   replace HB := k_ (below_step HB.out hb)
   replace HX := k_ (blk_below HX.out hb)
   replace HR := k_ (blk_below HR.out hb)
   have HT := HT1
   clear HT1 hA hE hus hb
   refine hK.out _ _ (HX.out) (fun hHeld => ?_)
   clear hK K
   refine norm_ (a' := ?_) ?_ ?_
   rotate_left
   ·show Act.put _ (some 13) _ = _
    simp only [Act.put, sP]
    rfl
   refine two_ (i := 9) (j := 14) (Ni := some 14) (Nj := some 3) mCopS15 mCopS16 rfl rfl rfl rfl (two_of HT_.out (by kernel_rfl)) (by decide) (by decide) (fun K hK => ?_) (fun K hK => ?_)
   ·refine Kd.R_lit_step Kd.string _ 9 ?hg (N := 14) ?hd (xs := ([] : List ByteArray)) (inner := []) (ok := fun _ => True) (okp := fun _ => True) ?hr ?hp (fun _ hk => hk) trivial (Below.refl _ _) (Nat.le_refl _) (by simp) ?_; (case hd => rfl); (case hg => rfl); (case hr => first | (go_simp; done) | (go_simp; rfl)); (case hp => exact (Reps.none _ _))
    intro v0 w5 ho hb hg_ hnew_
    clear hg_ hnew_
    have HE1 := Apt_str ho
    have D_HE0_gx := k_ (Apt_ge HE1 (blk_lt HX.out))
    have D_HE0_gr := k_ (Apt_ge HE1 (blk_lt HR.out))
    have E_T := k_ (show ∀ b ∈ blS [.lf (.int .i64 x.f3.f0), strR (.slice P1 x.f3.f1.length q1) x.f3.f1, .row 32 3 x.f3.f2.length (.slice P2 x.f3.f2.length q2) us], ∀ c ∈ blS [strR v0 []], b ≠ c from fun b hb' c hc => by have := Apt_lt HT.out b hb'; have := (OkS_in _ HE1.1 c hc).1; omega)
    have HE2 := k_ (Apt_lower HE1 (below_size HB.out))
    replace HB := k_ (below_step HB.out hb)
    replace HX := k_ (blk_below HX.out hb)
    replace HR := k_ (blk_below HR.out hb)
    replace HT := k_ (Apt_below HT.out hb)
    have HE0 := HE2
    clear HE1 HE2 ho hb
    refine hK.out _ _ (HX.out) (fun hHeld => ?_)
    clear hK K
    refine norm_ (a' := ?_) ?_ ?_
    rotate_left
    ·show Act.put _ (some 14) _ = _
     simp only [Act.put, sP]
     rfl
    refine two_ (i := 12) (j := 14) (Ni := some 17) (Nj := some 3) mCopS17 mCopS18 rfl rfl rfl rfl (two_of HT_.out (by kernel_rfl)) (by decide) (by decide) (fun K hK => ?_) (fun K hK => ?_)
    ·refine Kd.R_append_rows_step Kd.string (w0 := w) w.heap.size (by rfl) (.tmp 14) (.tmp 16) 22 9 (.string ⟨#[]⟩) 16 rfl Tryd.underlying22 info9 rfl (by decide) (by omega) v0 ([] : List ByteArray) x.f4 _ _ _ (fun _ => True) (fun _ => False) rfl rfl ?aO ?aR (fun _ _ h => h) (fun _ h => h.elim) ?aF ?aB ?aS ?aL ?_
     (case aR => exact Kd.C_below R3.out.1 HB.out)
     (case aB => exact HB.out)
     (case aF => exact fun _ _ => trivial)
     (case aO => exact Kd.R_mono (R_of_strR (by have := HE0.out.1; simp only [OkS, and_true] at this; exact this)) (fun _ _ => trivial))
     (case aS => exact below_size HB.out)
     (case aL => have := SM.out.p4.1; simp only [List.length_nil]; omega)
     intro v1 w6 ho hb1 hg1 hat1
     replace ho : Kd.R Kd.string 9 w6 w.heap.size (fun _ => True) v1 x.f4 := ho
     obtain ⟨Ao, co, rfl⟩ := Kd.R_slice ho
     have D_HL_gx := k_ (show ∀ b ∈ blS [strR (.slice Ao x.f4.length co) x.f4], b ≠ gx from Dgrow D_HE0_gx.out (blk_lt HX.out) hat1)
     have D_HL_gr := k_ (show ∀ b ∈ blS [strR (.slice Ao x.f4.length co) x.f4], b ≠ gr from Dgrow D_HE0_gr.out (blk_lt HR.out) hat1)
     have E_L := k_ (show ∀ b ∈ blS [.lf (.int .i64 x.f3.f0), strR (.slice P1 x.f3.f1.length q1) x.f3.f1, .row 32 3 x.f3.f2.length (.slice P2 x.f3.f2.length q2) us], ∀ c ∈ blS [strR (.slice Ao x.f4.length co) x.f4], b ≠ c from fun b hb' c hc => (Dgrow (fun c' hc' => (E_T.out b hb' c' hc').symm) (Apt_lt HT.out b hb') hat1 c hc).symm)
     have HL1 := k_ (Apt_str ho)
     replace HB := k_ (hb1)
     replace HX := k_ (blk_grown HX.out hg1 (fun he => D_HE0_gx.out gx (strR_own he.symm) rfl))
     replace HR := k_ (blk_grown HR.out hg1 (fun he => D_HE0_gr.out gr (strR_own he.symm) rfl))
     replace HT := k_ (Apt_grown HT.out hg1 (fun b hb_ he => E_T.out b hb_ b (strR_own he.symm) rfl))
     have HL := HL1
     clear HE0 HL1 ho hb1 hg1 hat1
     refine hK.out _ _ (HX.out) (fun hHeld => ?_)
     clear hK K
     refine norm_ (a' := ?_) ?_ ?_
     rotate_left
     ·show Act.put _ (some 17) _ = _
      simp only [Act.put, sP]
      rfl
     refine pure_ (i := 13) (N := some 18) (v := ?_) (a' := ?_) mCopS20 rfl rfl (any_of HT_.out (by kernel_rfl)) (fun _ _ _ h => h) (Or.inl ⟨by rfl, ?_⟩) ?_ ?_
     rotate_left
     ·intro w'
      go_simp
      try with_reducible rfl
     rotate_left
     ·simp only [Act.put, sP]
      rfl
     refine one_ (i := 14) (N := some 3) mCopS21 rfl rfl (one_of HT_.out (by kernel_rfl)) (by decide) (fun K hK => ?_)
     refine box_step ?hg (N := 3) ?hd (cs := #[.int .i64 0, .string ⟨#[]⟩, .int .i64 0, .int .i64 0, .slice none 0 0, .slice none 0 0, .slice none 0 0, .slice none 0 0]) (t := 35) ?hr ?_; (case hd => rfl); (case hg => rfl); (case hr => first | (go_simp; done) | (go_simp; rfl))
     intro gb hg w7 hbox hb
     have N_gx_gb := k_ (nwN hg HX.out)
     have N_gb_gx := k_ (Ne.symm N_gx_gb.out)
     have N_gr_gb := k_ (nwN hg HR.out)
     have N_gb_gr := k_ (Ne.symm N_gr_gb.out)
     have D_HT_gb := k_ (nwD hg HT.out)
     have D_HL_gb := k_ (nwD hg HL.out)
     have G_gb := k_ (nwG hg HB.out)
     replace HB := k_ (below_step HB.out hb)
     replace HX := k_ (blk_below HX.out hb)
     replace HR := k_ (blk_below HR.out hb)
     replace HT := k_ (Apt_below HT.out hb)
     replace HL := k_ (Apt_below HL.out hb)
     have HG := k_ hbox
     clear hg hbox hb
     refine hK.out _ _ (HX.out) (fun hHeld => ?_)
     clear hK K
     refine norm_ (a' := ?_) ?_ ?_
     rotate_left
     ·show Act.put _ (some 3) _ = _
      simp only [Act.put, sP]
      rfl
     exact norm_ (by simp only [putAll, Act.put, sP]) (hCont ((.slice P1 x.f3.f1.length q1), (.slice P2 x.f3.f2.length q2), (.slice Ao x.f4.length co), us, v0, gb) _ ⟨hHeld, Apt_both HT.out HL.out E_L.out, Dapp D_HT_gr.out D_HL_gr.out, Dapp D_HT_gb.out D_HL_gb.out, HUS.out, HX.out, HR.out, HG.out, HB.out, G_gb.out, N_gx_gb.out, N_gr_gb.out⟩)
    ·refine box_step ?hg (N := 3) ?hd (cs := #[.int .i64 0, .string ⟨#[]⟩, .int .i64 0, .int .i64 0, .slice none 0 0, .slice none 0 0, .slice none 0 0, .slice none 0 0]) (t := 35) ?hr ?_; (case hd => rfl); (case hg => rfl); (case hr => first | (go_simp; done) | (go_simp; rfl))
     intro gb hg w6 hbox hb
     have N_gx_gb := k_ (nwN hg HX.out)
     have N_gb_gx := k_ (Ne.symm N_gx_gb.out)
     have N_gr_gb := k_ (nwN hg HR.out)
     have N_gb_gr := k_ (Ne.symm N_gr_gb.out)
     have D_HT_gb := k_ (nwD hg HT.out)
     have D_HE0_gb := k_ (nwD hg HE0.out)
     have G_gb := k_ (nwG hg HB.out)
     replace HB := k_ (below_step HB.out hb)
     replace HX := k_ (blk_below HX.out hb)
     replace HR := k_ (blk_below HR.out hb)
     replace HT := k_ (Apt_below HT.out hb)
     replace HE0 := k_ (Apt_below HE0.out hb)
     have HG := k_ hbox
     clear hg hbox hb
     refine hK.out _ _ (HX.out) (fun hHeld => ?_)
     clear hK K
     refine norm_ (a' := ?_) ?_ ?_
     rotate_left
     ·show Act.put _ (some 3) _ = _
      simp only [Act.put, sP]
      rfl
     refine one_ (i := 12) (N := some 17) mCopS19 rfl rfl (one_of HT_.out (by kernel_rfl)) (by decide) (fun K hK => ?_)
     refine Kd.R_append_rows_step Kd.string (w0 := w) w.heap.size (by rfl) (.tmp 14) (.tmp 16) 22 9 (.string ⟨#[]⟩) 16 rfl Tryd.underlying22 info9 rfl (by decide) (by omega) v0 ([] : List ByteArray) x.f4 _ _ _ (fun _ => True) (fun _ => False) rfl rfl ?aO ?aR (fun _ _ h => h) (fun _ h => h.elim) ?aF ?aB ?aS ?aL ?_
     (case aR => exact Kd.C_below R3.out.1 HB.out)
     (case aB => exact HB.out)
     (case aF => exact fun _ _ => trivial)
     (case aO => exact Kd.R_mono (R_of_strR (by have := HE0.out.1; simp only [OkS, and_true] at this; exact this)) (fun _ _ => trivial))
     (case aS => exact below_size HB.out)
     (case aL => have := SM.out.p4.1; simp only [List.length_nil]; omega)
     intro v1 w7 ho hb1 hg1 hat1
     replace ho : Kd.R Kd.string 9 w7 w.heap.size (fun _ => True) v1 x.f4 := ho
     obtain ⟨Ao, co, rfl⟩ := Kd.R_slice ho
     have D_HL_gx := k_ (show ∀ b ∈ blS [strR (.slice Ao x.f4.length co) x.f4], b ≠ gx from Dgrow D_HE0_gx.out (blk_lt HX.out) hat1)
     have D_HL_gr := k_ (show ∀ b ∈ blS [strR (.slice Ao x.f4.length co) x.f4], b ≠ gr from Dgrow D_HE0_gr.out (blk_lt HR.out) hat1)
     have D_HL_gb := k_ (show ∀ b ∈ blS [strR (.slice Ao x.f4.length co) x.f4], b ≠ gb from Dgrow D_HE0_gb.out (blk_lt HG.out) hat1)
     have E_L := k_ (show ∀ b ∈ blS [.lf (.int .i64 x.f3.f0), strR (.slice P1 x.f3.f1.length q1) x.f3.f1, .row 32 3 x.f3.f2.length (.slice P2 x.f3.f2.length q2) us], ∀ c ∈ blS [strR (.slice Ao x.f4.length co) x.f4], b ≠ c from fun b hb' c hc => (Dgrow (fun c' hc' => (E_T.out b hb' c' hc').symm) (Apt_lt HT.out b hb') hat1 c hc).symm)
     have HL1 := k_ (Apt_str ho)
     replace HB := k_ (hb1)
     replace HX := k_ (blk_grown HX.out hg1 (fun he => D_HE0_gx.out gx (strR_own he.symm) rfl))
     replace HR := k_ (blk_grown HR.out hg1 (fun he => D_HE0_gr.out gr (strR_own he.symm) rfl))
     replace HT := k_ (Apt_grown HT.out hg1 (fun b hb_ he => E_T.out b hb_ b (strR_own he.symm) rfl))
     replace HG := k_ (blk_grown HG.out hg1 (fun he => D_HE0_gb.out gb (strR_own he.symm) rfl))
     have HL := HL1
     clear HE0 HL1 ho hb1 hg1 hat1
     refine hK.out _ _ (HX.out) (fun hHeld => ?_)
     clear hK K
     refine norm_ (a' := ?_) ?_ ?_
     rotate_left
     ·show Act.put _ (some 17) _ = _
      simp only [Act.put, sP]
      rfl
     refine pure_ (i := 13) (N := some 18) (v := ?_) (a' := ?_) mCopS21 rfl rfl (any_of HT_.out (by kernel_rfl)) (fun _ _ _ h => h) (Or.inl ⟨by rfl, ?_⟩) ?_ ?_
     rotate_left
     ·intro w'
      go_simp
      try with_reducible rfl
     rotate_left
     ·simp only [Act.put, sP]
      rfl
     exact norm_ (by simp only [putAll, Act.put, sP]) (hCont ((.slice P1 x.f3.f1.length q1), (.slice P2 x.f3.f2.length q2), (.slice Ao x.f4.length co), us, v0, gb) _ ⟨hHeld, Apt_both HT.out HL.out E_L.out, Dapp D_HT_gr.out D_HL_gr.out, Dapp D_HT_gb.out D_HL_gb.out, HUS.out, HX.out, HR.out, HG.out, HB.out, G_gb.out, N_gx_gb.out, N_gr_gb.out⟩)
   ·refine box_step ?hg (N := 3) ?hd (cs := #[.int .i64 0, .string ⟨#[]⟩, .int .i64 0, .int .i64 0, .slice none 0 0, .slice none 0 0, .slice none 0 0, .slice none 0 0]) (t := 35) ?hr ?_; (case hd => rfl); (case hg => rfl); (case hr => first | (go_simp; done) | (go_simp; rfl))
    intro gb hg w5 hbox hb
    have N_gx_gb := k_ (nwN hg HX.out)
    have N_gb_gx := k_ (Ne.symm N_gx_gb.out)
    have N_gr_gb := k_ (nwN hg HR.out)
    have N_gb_gr := k_ (Ne.symm N_gr_gb.out)
    have D_HT_gb := k_ (nwD hg HT.out)
    have G_gb := k_ (nwG hg HB.out)
    replace HB := k_ (below_step HB.out hb)
    replace HX := k_ (blk_below HX.out hb)
    replace HR := k_ (blk_below HR.out hb)
    replace HT := k_ (Apt_below HT.out hb)
    have HG := k_ hbox
    clear hg hbox hb
    refine hK.out _ _ (HX.out) (fun hHeld => ?_)
    clear hK K
    refine norm_ (a' := ?_) ?_ ?_
    rotate_left
    ·show Act.put _ (some 3) _ = _
     simp only [Act.put, sP]
     rfl
    refine one_ (i := 9) (N := some 14) mCopS18 rfl rfl (one_of HT_.out (by kernel_rfl)) (by decide) (fun K hK => ?_)
    refine Kd.R_lit_step Kd.string _ 9 ?hg (N := 14) ?hd (xs := ([] : List ByteArray)) (inner := []) (ok := fun _ => True) (okp := fun _ => True) ?hr ?hp (fun _ hk => hk) trivial (Below.refl _ _) (Nat.le_refl _) (by simp) ?_; (case hd => rfl); (case hg => rfl); (case hr => first | (go_simp; done) | (go_simp; rfl)); (case hp => exact (Reps.none _ _))
    intro v0 w6 ho hb hg_ hnew_
    clear hg_ hnew_
    have HE1 := Apt_str ho
    have D_HE0_gx := k_ (Apt_ge HE1 (blk_lt HX.out))
    have D_HE0_gr := k_ (Apt_ge HE1 (blk_lt HR.out))
    have D_HE0_gb := k_ (Apt_ge HE1 (blk_lt HG.out))
    have E_T := k_ (show ∀ b ∈ blS [.lf (.int .i64 x.f3.f0), strR (.slice P1 x.f3.f1.length q1) x.f3.f1, .row 32 3 x.f3.f2.length (.slice P2 x.f3.f2.length q2) us], ∀ c ∈ blS [strR v0 []], b ≠ c from fun b hb' c hc => by have := Apt_lt HT.out b hb'; have := (OkS_in _ HE1.1 c hc).1; omega)
    have HE2 := k_ (Apt_lower HE1 (below_size HB.out))
    replace HB := k_ (below_step HB.out hb)
    replace HX := k_ (blk_below HX.out hb)
    replace HR := k_ (blk_below HR.out hb)
    replace HT := k_ (Apt_below HT.out hb)
    replace HG := k_ (blk_below HG.out hb)
    have HE0 := HE2
    clear HE1 HE2 ho hb
    refine hK.out _ _ (HX.out) (fun hHeld => ?_)
    clear hK K
    refine norm_ (a' := ?_) ?_ ?_
    rotate_left
    ·show Act.put _ (some 14) _ = _
     simp only [Act.put, sP]
     rfl
    refine one_ (i := 12) (N := some 17) mCopS19 rfl rfl (one_of HT_.out (by kernel_rfl)) (by decide) (fun K hK => ?_)
    refine Kd.R_append_rows_step Kd.string (w0 := w) w.heap.size (by rfl) (.tmp 14) (.tmp 16) 22 9 (.string ⟨#[]⟩) 16 rfl Tryd.underlying22 info9 rfl (by decide) (by omega) v0 ([] : List ByteArray) x.f4 _ _ _ (fun _ => True) (fun _ => False) rfl rfl ?aO ?aR (fun _ _ h => h) (fun _ h => h.elim) ?aF ?aB ?aS ?aL ?_
    (case aR => exact Kd.C_below R3.out.1 HB.out)
    (case aB => exact HB.out)
    (case aF => exact fun _ _ => trivial)
    (case aO => exact Kd.R_mono (R_of_strR (by have := HE0.out.1; simp only [OkS, and_true] at this; exact this)) (fun _ _ => trivial))
    (case aS => exact below_size HB.out)
    (case aL => have := SM.out.p4.1; simp only [List.length_nil]; omega)
    intro v1 w7 ho hb1 hg1 hat1
    replace ho : Kd.R Kd.string 9 w7 w.heap.size (fun _ => True) v1 x.f4 := ho
    obtain ⟨Ao, co, rfl⟩ := Kd.R_slice ho
    have D_HL_gx := k_ (show ∀ b ∈ blS [strR (.slice Ao x.f4.length co) x.f4], b ≠ gx from Dgrow D_HE0_gx.out (blk_lt HX.out) hat1)
    have D_HL_gr := k_ (show ∀ b ∈ blS [strR (.slice Ao x.f4.length co) x.f4], b ≠ gr from Dgrow D_HE0_gr.out (blk_lt HR.out) hat1)
    have D_HL_gb := k_ (show ∀ b ∈ blS [strR (.slice Ao x.f4.length co) x.f4], b ≠ gb from Dgrow D_HE0_gb.out (blk_lt HG.out) hat1)
    have E_L := k_ (show ∀ b ∈ blS [.lf (.int .i64 x.f3.f0), strR (.slice P1 x.f3.f1.length q1) x.f3.f1, .row 32 3 x.f3.f2.length (.slice P2 x.f3.f2.length q2) us], ∀ c ∈ blS [strR (.slice Ao x.f4.length co) x.f4], b ≠ c from fun b hb' c hc => (Dgrow (fun c' hc' => (E_T.out b hb' c' hc').symm) (Apt_lt HT.out b hb') hat1 c hc).symm)
    have HL1 := k_ (Apt_str ho)
    replace HB := k_ (hb1)
    replace HX := k_ (blk_grown HX.out hg1 (fun he => D_HE0_gx.out gx (strR_own he.symm) rfl))
    replace HR := k_ (blk_grown HR.out hg1 (fun he => D_HE0_gr.out gr (strR_own he.symm) rfl))
    replace HT := k_ (Apt_grown HT.out hg1 (fun b hb_ he => E_T.out b hb_ b (strR_own he.symm) rfl))
    replace HG := k_ (blk_grown HG.out hg1 (fun he => D_HE0_gb.out gb (strR_own he.symm) rfl))
    have HL := HL1
    clear HE0 HL1 ho hb1 hg1 hat1
    refine hK.out _ _ (HX.out) (fun hHeld => ?_)
    clear hK K
    refine norm_ (a' := ?_) ?_ ?_
    rotate_left
    ·show Act.put _ (some 17) _ = _
     simp only [Act.put, sP]
     rfl
    refine pure_ (i := 13) (N := some 18) (v := ?_) (a' := ?_) mCopS21 rfl rfl (any_of HT_.out (by kernel_rfl)) (fun _ _ _ h => h) (Or.inl ⟨by rfl, ?_⟩) ?_ ?_
    rotate_left
    ·intro w'
     go_simp
     try with_reducible rfl
    rotate_left
    ·simp only [Act.put, sP]
     rfl
    exact norm_ (by simp only [putAll, Act.put, sP]) (hCont ((.slice P1 x.f3.f1.length q1), (.slice P2 x.f3.f2.length q2), (.slice Ao x.f4.length co), us, v0, gb) _ ⟨hHeld, Apt_both HT.out HL.out E_L.out, Dapp D_HT_gr.out D_HL_gr.out, Dapp D_HT_gb.out D_HL_gb.out, HUS.out, HX.out, HR.out, HG.out, HB.out, G_gb.out, N_gx_gb.out, N_gr_gb.out⟩)
  ·refine Kd.R_lit_step Kd.string _ 9 ?hg (N := 14) ?hd (xs := ([] : List ByteArray)) (inner := []) (ok := fun _ => True) (okp := fun _ => True) ?hr ?hp (fun _ hk => hk) trivial (Below.refl _ _) (Nat.le_refl _) (by simp) ?_; (case hd => rfl); (case hg => rfl); (case hr => first | (go_simp; done) | (go_simp; rfl)); (case hp => exact (Reps.none _ _))
   intro v0 w4 ho hb hg_ hnew_
   clear hg_ hnew_
   have HE1 := Apt_str ho
   have D_HE0_gx := k_ (Apt_ge HE1 (blk_lt HX.out))
   have D_HE0_gr := k_ (Apt_ge HE1 (blk_lt HR.out))
   have HE2 := k_ (Apt_lower HE1 (below_size HB.out))
   replace HB := k_ (below_step HB.out hb)
   replace HX := k_ (blk_below HX.out hb)
   replace HR := k_ (blk_below HR.out hb)
   have HE0 := HE2
   clear HE1 HE2 ho hb
   refine hK.out _ _ (HX.out) (fun hHeld => ?_)
   clear hK K
   refine norm_ (a' := ?_) ?_ ?_
   rotate_left
   ·show Act.put _ (some 14) _ = _
    simp only [Act.put, sP]
    rfl
   refine two_ (i := 8) (j := 14) (Ni := some 13) (Nj := some 3) mCopS15 mCopS14 rfl rfl rfl rfl (two_of HT_.out (by kernel_rfl)) (by decide) (by decide) (fun K hK => ?_) (fun K hK => ?_)
   ·refine goes_ Tryd.func42 (by kernel_rfl) rfl #[.agg #[.int .i64 x.f3.f0, .slice A1 x.f3.f1.length c1, .slice A2 x.f3.f2.length c2]] (by rfl) rfl rfl (by (try simp only [List.map_toArray, List.map_cons, List.map_nil]); first | done | rfl) ?_
    refine (l3Copy_st x.f3 SM.out.p3 A1 c1 A2 c2 _ ⟨Kd.C_below R1.out.1 HB.out, R1.out.2⟩ ⟨Kd.C_below R2.out.1 HB.out, R2.out.2⟩).mono ?_
    rintro e w5 ⟨hs, rfl, hE, hA, hb⟩
    obtain ⟨P1, q1, P2, q2, us, rfl, hus⟩ := TyE_open hE hA
    refine ⟨.agg #[.int .i64 x.f3.f0, .slice P1 x.f3.f1.length q1, .slice P2 x.f3.f2.length q2], rfl, ?_⟩
    have HUS := k_ hus
    have D_HT_gx := k_ (Apt_ge hA (blk_lt HX.out))
    have D_HT_gr := k_ (Apt_ge hA (blk_lt HR.out))
    have E_T := k_ (show ∀ b ∈ blS [.lf (.int .i64 x.f3.f0), strR (.slice P1 x.f3.f1.length q1) x.f3.f1, .row 32 3 x.f3.f2.length (.slice P2 x.f3.f2.length q2) us], ∀ c ∈ blS [strR v0 []], b ≠ c from fun b hb' c hc => by have := (OkS_in _ hA.1 b hb').1; have := Apt_lt HE0.out c hc; omega)
    have HT1 := k_ (Apt_lower hA (below_size HB.out))
    replace HB := k_ (below_step HB.out hb)
    replace HX := k_ (blk_below HX.out hb)
    replace HR := k_ (blk_below HR.out hb)
    replace HE0 := k_ (Apt_below HE0.out hb)
    have HT := HT1
    clear HT1 hA hE hus hb
    refine hK.out _ _ (HX.out) (fun hHeld => ?_)
    clear hK K
    refine norm_ (a' := ?_) ?_ ?_
    rotate_left
    ·show Act.put _ (some 13) _ = _
     simp only [Act.put, sP]
     rfl
    refine two_ (i := 12) (j := 14) (Ni := some 17) (Nj := some 3) mCopS17 mCopS18 rfl rfl rfl rfl (two_of HT_.out (by kernel_rfl)) (by decide) (by decide) (fun K hK => ?_) (fun K hK => ?_)
    ·refine Kd.R_append_rows_step Kd.string (w0 := w) w.heap.size (by rfl) (.tmp 14) (.tmp 16) 22 9 (.string ⟨#[]⟩) 16 rfl Tryd.underlying22 info9 rfl (by decide) (by omega) v0 ([] : List ByteArray) x.f4 _ _ _ (fun _ => True) (fun _ => False) rfl rfl ?aO ?aR (fun _ _ h => h) (fun _ h => h.elim) ?aF ?aB ?aS ?aL ?_
     (case aR => exact Kd.C_below R3.out.1 HB.out)
     (case aB => exact HB.out)
     (case aF => exact fun _ _ => trivial)
     (case aO => exact Kd.R_mono (R_of_strR (by have := HE0.out.1; simp only [OkS, and_true] at this; exact this)) (fun _ _ => trivial))
     (case aS => exact below_size HB.out)
     (case aL => have := SM.out.p4.1; simp only [List.length_nil]; omega)
     intro v1 w6 ho hb1 hg1 hat1
     replace ho : Kd.R Kd.string 9 w6 w.heap.size (fun _ => True) v1 x.f4 := ho
     obtain ⟨Ao, co, rfl⟩ := Kd.R_slice ho
     have D_HL_gx := k_ (show ∀ b ∈ blS [strR (.slice Ao x.f4.length co) x.f4], b ≠ gx from Dgrow D_HE0_gx.out (blk_lt HX.out) hat1)
     have D_HL_gr := k_ (show ∀ b ∈ blS [strR (.slice Ao x.f4.length co) x.f4], b ≠ gr from Dgrow D_HE0_gr.out (blk_lt HR.out) hat1)
     have E_L := k_ (show ∀ b ∈ blS [.lf (.int .i64 x.f3.f0), strR (.slice P1 x.f3.f1.length q1) x.f3.f1, .row 32 3 x.f3.f2.length (.slice P2 x.f3.f2.length q2) us], ∀ c ∈ blS [strR (.slice Ao x.f4.length co) x.f4], b ≠ c from fun b hb' c hc => (Dgrow (fun c' hc' => (E_T.out b hb' c' hc').symm) (Apt_lt HT.out b hb') hat1 c hc).symm)
     have HL1 := k_ (Apt_str ho)
     replace HB := k_ (hb1)
     replace HX := k_ (blk_grown HX.out hg1 (fun he => D_HE0_gx.out gx (strR_own he.symm) rfl))
     replace HR := k_ (blk_grown HR.out hg1 (fun he => D_HE0_gr.out gr (strR_own he.symm) rfl))
     replace HT := k_ (Apt_grown HT.out hg1 (fun b hb_ he => E_T.out b hb_ b (strR_own he.symm) rfl))
     have HL := HL1
     clear HE0 HL1 ho hb1 hg1 hat1
     refine hK.out _ _ (HX.out) (fun hHeld => ?_)
     clear hK K
     refine norm_ (a' := ?_) ?_ ?_
     rotate_left
     ·show Act.put _ (some 17) _ = _
      simp only [Act.put, sP]
      rfl
     refine pure_ (i := 13) (N := some 18) (v := ?_) (a' := ?_) mCopS20 rfl rfl (any_of HT_.out (by kernel_rfl)) (fun _ _ _ h => h) (Or.inl ⟨by rfl, ?_⟩) ?_ ?_
     rotate_left
     ·intro w'
      go_simp
      try with_reducible rfl
     rotate_left
     ·simp only [Act.put, sP]
      rfl
     refine one_ (i := 14) (N := some 3) mCopS21 rfl rfl (one_of HT_.out (by kernel_rfl)) (by decide) (fun K hK => ?_)
     refine box_step ?hg (N := 3) ?hd (cs := #[.int .i64 0, .string ⟨#[]⟩, .int .i64 0, .int .i64 0, .slice none 0 0, .slice none 0 0, .slice none 0 0, .slice none 0 0]) (t := 35) ?hr ?_; (case hd => rfl); (case hg => rfl); (case hr => first | (go_simp; done) | (go_simp; rfl))
     intro gb hg w7 hbox hb
     have N_gx_gb := k_ (nwN hg HX.out)
     have N_gb_gx := k_ (Ne.symm N_gx_gb.out)
     have N_gr_gb := k_ (nwN hg HR.out)
     have N_gb_gr := k_ (Ne.symm N_gr_gb.out)
     have D_HT_gb := k_ (nwD hg HT.out)
     have D_HL_gb := k_ (nwD hg HL.out)
     have G_gb := k_ (nwG hg HB.out)
     replace HB := k_ (below_step HB.out hb)
     replace HX := k_ (blk_below HX.out hb)
     replace HR := k_ (blk_below HR.out hb)
     replace HT := k_ (Apt_below HT.out hb)
     replace HL := k_ (Apt_below HL.out hb)
     have HG := k_ hbox
     clear hg hbox hb
     refine hK.out _ _ (HX.out) (fun hHeld => ?_)
     clear hK K
     refine norm_ (a' := ?_) ?_ ?_
     rotate_left
     ·show Act.put _ (some 3) _ = _
      simp only [Act.put, sP]
      rfl
     exact norm_ (by simp only [putAll, Act.put, sP]) (hCont ((.slice P1 x.f3.f1.length q1), (.slice P2 x.f3.f2.length q2), (.slice Ao x.f4.length co), us, v0, gb) _ ⟨hHeld, Apt_both HT.out HL.out E_L.out, Dapp D_HT_gr.out D_HL_gr.out, Dapp D_HT_gb.out D_HL_gb.out, HUS.out, HX.out, HR.out, HG.out, HB.out, G_gb.out, N_gx_gb.out, N_gr_gb.out⟩)
    ·refine box_step ?hg (N := 3) ?hd (cs := #[.int .i64 0, .string ⟨#[]⟩, .int .i64 0, .int .i64 0, .slice none 0 0, .slice none 0 0, .slice none 0 0, .slice none 0 0]) (t := 35) ?hr ?_; (case hd => rfl); (case hg => rfl); (case hr => first | (go_simp; done) | (go_simp; rfl))
     intro gb hg w6 hbox hb
     have N_gx_gb := k_ (nwN hg HX.out)
     have N_gb_gx := k_ (Ne.symm N_gx_gb.out)
     have N_gr_gb := k_ (nwN hg HR.out)
     have N_gb_gr := k_ (Ne.symm N_gr_gb.out)
     have D_HE0_gb := k_ (nwD hg HE0.out)
     have D_HT_gb := k_ (nwD hg HT.out)
     have G_gb := k_ (nwG hg HB.out)
     replace HB := k_ (below_step HB.out hb)
     replace HX := k_ (blk_below HX.out hb)
     replace HR := k_ (blk_below HR.out hb)
     replace HE0 := k_ (Apt_below HE0.out hb)
     replace HT := k_ (Apt_below HT.out hb)
     have HG := k_ hbox
     clear hg hbox hb
     refine hK.out _ _ (HX.out) (fun hHeld => ?_)
     clear hK K
     refine norm_ (a' := ?_) ?_ ?_
     rotate_left
     ·show Act.put _ (some 3) _ = _
      simp only [Act.put, sP]
      rfl
     refine one_ (i := 12) (N := some 17) mCopS19 rfl rfl (one_of HT_.out (by kernel_rfl)) (by decide) (fun K hK => ?_)
     refine Kd.R_append_rows_step Kd.string (w0 := w) w.heap.size (by rfl) (.tmp 14) (.tmp 16) 22 9 (.string ⟨#[]⟩) 16 rfl Tryd.underlying22 info9 rfl (by decide) (by omega) v0 ([] : List ByteArray) x.f4 _ _ _ (fun _ => True) (fun _ => False) rfl rfl ?aO ?aR (fun _ _ h => h) (fun _ h => h.elim) ?aF ?aB ?aS ?aL ?_
     (case aR => exact Kd.C_below R3.out.1 HB.out)
     (case aB => exact HB.out)
     (case aF => exact fun _ _ => trivial)
     (case aO => exact Kd.R_mono (R_of_strR (by have := HE0.out.1; simp only [OkS, and_true] at this; exact this)) (fun _ _ => trivial))
     (case aS => exact below_size HB.out)
     (case aL => have := SM.out.p4.1; simp only [List.length_nil]; omega)
     intro v1 w7 ho hb1 hg1 hat1
     replace ho : Kd.R Kd.string 9 w7 w.heap.size (fun _ => True) v1 x.f4 := ho
     obtain ⟨Ao, co, rfl⟩ := Kd.R_slice ho
     have D_HL_gx := k_ (show ∀ b ∈ blS [strR (.slice Ao x.f4.length co) x.f4], b ≠ gx from Dgrow D_HE0_gx.out (blk_lt HX.out) hat1)
     have D_HL_gr := k_ (show ∀ b ∈ blS [strR (.slice Ao x.f4.length co) x.f4], b ≠ gr from Dgrow D_HE0_gr.out (blk_lt HR.out) hat1)
     have D_HL_gb := k_ (show ∀ b ∈ blS [strR (.slice Ao x.f4.length co) x.f4], b ≠ gb from Dgrow D_HE0_gb.out (blk_lt HG.out) hat1)
     have E_L := k_ (show ∀ b ∈ blS [.lf (.int .i64 x.f3.f0), strR (.slice P1 x.f3.f1.length q1) x.f3.f1, .row 32 3 x.f3.f2.length (.slice P2 x.f3.f2.length q2) us], ∀ c ∈ blS [strR (.slice Ao x.f4.length co) x.f4], b ≠ c from fun b hb' c hc => (Dgrow (fun c' hc' => (E_T.out b hb' c' hc').symm) (Apt_lt HT.out b hb') hat1 c hc).symm)
     have HL1 := k_ (Apt_str ho)
     replace HB := k_ (hb1)
     replace HX := k_ (blk_grown HX.out hg1 (fun he => D_HE0_gx.out gx (strR_own he.symm) rfl))
     replace HR := k_ (blk_grown HR.out hg1 (fun he => D_HE0_gr.out gr (strR_own he.symm) rfl))
     replace HT := k_ (Apt_grown HT.out hg1 (fun b hb_ he => E_T.out b hb_ b (strR_own he.symm) rfl))
     replace HG := k_ (blk_grown HG.out hg1 (fun he => D_HE0_gb.out gb (strR_own he.symm) rfl))
     have HL := HL1
     clear HE0 HL1 ho hb1 hg1 hat1
     refine hK.out _ _ (HX.out) (fun hHeld => ?_)
     clear hK K
     refine norm_ (a' := ?_) ?_ ?_
     rotate_left
     ·show Act.put _ (some 17) _ = _
      simp only [Act.put, sP]
      rfl
     refine pure_ (i := 13) (N := some 18) (v := ?_) (a' := ?_) mCopS21 rfl rfl (any_of HT_.out (by kernel_rfl)) (fun _ _ _ h => h) (Or.inl ⟨by rfl, ?_⟩) ?_ ?_
     rotate_left
     ·intro w'
      go_simp
      try with_reducible rfl
     rotate_left
     ·simp only [Act.put, sP]
      rfl
     exact norm_ (by simp only [putAll, Act.put, sP]) (hCont ((.slice P1 x.f3.f1.length q1), (.slice P2 x.f3.f2.length q2), (.slice Ao x.f4.length co), us, v0, gb) _ ⟨hHeld, Apt_both HT.out HL.out E_L.out, Dapp D_HT_gr.out D_HL_gr.out, Dapp D_HT_gb.out D_HL_gb.out, HUS.out, HX.out, HR.out, HG.out, HB.out, G_gb.out, N_gx_gb.out, N_gr_gb.out⟩)
   ·refine box_step ?hg (N := 3) ?hd (cs := #[.int .i64 0, .string ⟨#[]⟩, .int .i64 0, .int .i64 0, .slice none 0 0, .slice none 0 0, .slice none 0 0, .slice none 0 0]) (t := 35) ?hr ?_; (case hd => rfl); (case hg => rfl); (case hr => first | (go_simp; done) | (go_simp; rfl))
    intro gb hg w5 hbox hb
    have N_gx_gb := k_ (nwN hg HX.out)
    have N_gb_gx := k_ (Ne.symm N_gx_gb.out)
    have N_gr_gb := k_ (nwN hg HR.out)
    have N_gb_gr := k_ (Ne.symm N_gr_gb.out)
    have D_HE0_gb := k_ (nwD hg HE0.out)
    have G_gb := k_ (nwG hg HB.out)
    replace HB := k_ (below_step HB.out hb)
    replace HX := k_ (blk_below HX.out hb)
    replace HR := k_ (blk_below HR.out hb)
    replace HE0 := k_ (Apt_below HE0.out hb)
    have HG := k_ hbox
    clear hg hbox hb
    refine hK.out _ _ (HX.out) (fun hHeld => ?_)
    clear hK K
    refine norm_ (a' := ?_) ?_ ?_
    rotate_left
    ·show Act.put _ (some 3) _ = _
     simp only [Act.put, sP]
     rfl
    refine one_ (i := 8) (N := some 13) mCopS18 rfl rfl (one_of HT_.out (by kernel_rfl)) (by decide) (fun K hK => ?_)
    refine goes_ Tryd.func42 (by kernel_rfl) rfl #[.agg #[.int .i64 x.f3.f0, .slice A1 x.f3.f1.length c1, .slice A2 x.f3.f2.length c2]] (by rfl) rfl rfl (by (try simp only [List.map_toArray, List.map_cons, List.map_nil]); first | done | rfl) ?_
    refine (l3Copy_st x.f3 SM.out.p3 A1 c1 A2 c2 _ ⟨Kd.C_below R1.out.1 HB.out, R1.out.2⟩ ⟨Kd.C_below R2.out.1 HB.out, R2.out.2⟩).mono ?_
    rintro e w6 ⟨hs, rfl, hE, hA, hb⟩
    obtain ⟨P1, q1, P2, q2, us, rfl, hus⟩ := TyE_open hE hA
    refine ⟨.agg #[.int .i64 x.f3.f0, .slice P1 x.f3.f1.length q1, .slice P2 x.f3.f2.length q2], rfl, ?_⟩
    have HUS := k_ hus
    have D_HT_gx := k_ (Apt_ge hA (blk_lt HX.out))
    have D_HT_gr := k_ (Apt_ge hA (blk_lt HR.out))
    have D_HT_gb := k_ (Apt_ge hA (blk_lt HG.out))
    have E_T := k_ (show ∀ b ∈ blS [.lf (.int .i64 x.f3.f0), strR (.slice P1 x.f3.f1.length q1) x.f3.f1, .row 32 3 x.f3.f2.length (.slice P2 x.f3.f2.length q2) us], ∀ c ∈ blS [strR v0 []], b ≠ c from fun b hb' c hc => by have := (OkS_in _ hA.1 b hb').1; have := Apt_lt HE0.out c hc; omega)
    have HT1 := k_ (Apt_lower hA (below_size HB.out))
    replace HB := k_ (below_step HB.out hb)
    replace HX := k_ (blk_below HX.out hb)
    replace HR := k_ (blk_below HR.out hb)
    replace HE0 := k_ (Apt_below HE0.out hb)
    replace HG := k_ (blk_below HG.out hb)
    have HT := HT1
    clear HT1 hA hE hus hb
    refine hK.out _ _ (HX.out) (fun hHeld => ?_)
    clear hK K
    refine norm_ (a' := ?_) ?_ ?_
    rotate_left
    ·show Act.put _ (some 13) _ = _
     simp only [Act.put, sP]
     rfl
    refine one_ (i := 12) (N := some 17) mCopS19 rfl rfl (one_of HT_.out (by kernel_rfl)) (by decide) (fun K hK => ?_)
    refine Kd.R_append_rows_step Kd.string (w0 := w) w.heap.size (by rfl) (.tmp 14) (.tmp 16) 22 9 (.string ⟨#[]⟩) 16 rfl Tryd.underlying22 info9 rfl (by decide) (by omega) v0 ([] : List ByteArray) x.f4 _ _ _ (fun _ => True) (fun _ => False) rfl rfl ?aO ?aR (fun _ _ h => h) (fun _ h => h.elim) ?aF ?aB ?aS ?aL ?_
    (case aR => exact Kd.C_below R3.out.1 HB.out)
    (case aB => exact HB.out)
    (case aF => exact fun _ _ => trivial)
    (case aO => exact Kd.R_mono (R_of_strR (by have := HE0.out.1; simp only [OkS, and_true] at this; exact this)) (fun _ _ => trivial))
    (case aS => exact below_size HB.out)
    (case aL => have := SM.out.p4.1; simp only [List.length_nil]; omega)
    intro v1 w7 ho hb1 hg1 hat1
    replace ho : Kd.R Kd.string 9 w7 w.heap.size (fun _ => True) v1 x.f4 := ho
    obtain ⟨Ao, co, rfl⟩ := Kd.R_slice ho
    have D_HL_gx := k_ (show ∀ b ∈ blS [strR (.slice Ao x.f4.length co) x.f4], b ≠ gx from Dgrow D_HE0_gx.out (blk_lt HX.out) hat1)
    have D_HL_gr := k_ (show ∀ b ∈ blS [strR (.slice Ao x.f4.length co) x.f4], b ≠ gr from Dgrow D_HE0_gr.out (blk_lt HR.out) hat1)
    have D_HL_gb := k_ (show ∀ b ∈ blS [strR (.slice Ao x.f4.length co) x.f4], b ≠ gb from Dgrow D_HE0_gb.out (blk_lt HG.out) hat1)
    have E_L := k_ (show ∀ b ∈ blS [.lf (.int .i64 x.f3.f0), strR (.slice P1 x.f3.f1.length q1) x.f3.f1, .row 32 3 x.f3.f2.length (.slice P2 x.f3.f2.length q2) us], ∀ c ∈ blS [strR (.slice Ao x.f4.length co) x.f4], b ≠ c from fun b hb' c hc => (Dgrow (fun c' hc' => (E_T.out b hb' c' hc').symm) (Apt_lt HT.out b hb') hat1 c hc).symm)
    have HL1 := k_ (Apt_str ho)
    replace HB := k_ (hb1)
    replace HX := k_ (blk_grown HX.out hg1 (fun he => D_HE0_gx.out gx (strR_own he.symm) rfl))
    replace HR := k_ (blk_grown HR.out hg1 (fun he => D_HE0_gr.out gr (strR_own he.symm) rfl))
    replace HG := k_ (blk_grown HG.out hg1 (fun he => D_HE0_gb.out gb (strR_own he.symm) rfl))
    replace HT := k_ (Apt_grown HT.out hg1 (fun b hb_ he => E_T.out b hb_ b (strR_own he.symm) rfl))
    have HL := HL1
    clear HE0 HL1 ho hb1 hg1 hat1
    refine hK.out _ _ (HX.out) (fun hHeld => ?_)
    clear hK K
    refine norm_ (a' := ?_) ?_ ?_
    rotate_left
    ·show Act.put _ (some 17) _ = _
     simp only [Act.put, sP]
     rfl
    refine pure_ (i := 13) (N := some 18) (v := ?_) (a' := ?_) mCopS21 rfl rfl (any_of HT_.out (by kernel_rfl)) (fun _ _ _ h => h) (Or.inl ⟨by rfl, ?_⟩) ?_ ?_
    rotate_left
    ·intro w'
     go_simp
     try with_reducible rfl
    rotate_left
    ·simp only [Act.put, sP]
     rfl
    exact norm_ (by simp only [putAll, Act.put, sP]) (hCont ((.slice P1 x.f3.f1.length q1), (.slice P2 x.f3.f2.length q2), (.slice Ao x.f4.length co), us, v0, gb) _ ⟨hHeld, Apt_both HT.out HL.out E_L.out, Dapp D_HT_gr.out D_HL_gr.out, Dapp D_HT_gb.out D_HL_gb.out, HUS.out, HX.out, HR.out, HG.out, HB.out, G_gb.out, N_gx_gb.out, N_gr_gb.out⟩)
  ·refine box_step ?hg (N := 3) ?hd (cs := #[.int .i64 0, .string ⟨#[]⟩, .int .i64 0, .int .i64 0, .slice none 0 0, .slice none 0 0, .slice none 0 0, .slice none 0 0]) (t := 35) ?hr ?_; (case hd => rfl); (case hg => rfl); (case hr => first | (go_simp; done) | (go_simp; rfl))
   intro gb hg w4 hbox hb
   have N_gx_gb := k_ (nwN hg HX.out)
   have N_gb_gx := k_ (Ne.symm N_gx_gb.out)
   have N_gr_gb := k_ (nwN hg HR.out)
   have N_gb_gr := k_ (Ne.symm N_gr_gb.out)
   have G_gb := k_ (nwG hg HB.out)
   replace HB := k_ (below_step HB.out hb)
   replace HX := k_ (blk_below HX.out hb)
   replace HR := k_ (blk_below HR.out hb)
   have HG := k_ hbox
   clear hg hbox hb
   refine hK.out _ _ (HX.out) (fun hHeld => ?_)
   clear hK K
   refine norm_ (a' := ?_) ?_ ?_
   rotate_left
   ·show Act.put _ (some 3) _ = _
    simp only [Act.put, sP]
    rfl
   refine two_ (i := 8) (j := 9) (Ni := some 13) (Nj := some 14) mCopS16 mCopS14 rfl rfl rfl rfl (two_of HT_.out (by kernel_rfl)) (by decide) (by decide) (fun K hK => ?_) (fun K hK => ?_)
   ·refine goes_ Tryd.func42 (by kernel_rfl) rfl #[.agg #[.int .i64 x.f3.f0, .slice A1 x.f3.f1.length c1, .slice A2 x.f3.f2.length c2]] (by rfl) rfl rfl (by (try simp only [List.map_toArray, List.map_cons, List.map_nil]); first | done | rfl) ?_
    refine (l3Copy_st x.f3 SM.out.p3 A1 c1 A2 c2 _ ⟨Kd.C_below R1.out.1 HB.out, R1.out.2⟩ ⟨Kd.C_below R2.out.1 HB.out, R2.out.2⟩).mono ?_
    rintro e w5 ⟨hs, rfl, hE, hA, hb⟩
    obtain ⟨P1, q1, P2, q2, us, rfl, hus⟩ := TyE_open hE hA
    refine ⟨.agg #[.int .i64 x.f3.f0, .slice P1 x.f3.f1.length q1, .slice P2 x.f3.f2.length q2], rfl, ?_⟩
    have HUS := k_ hus
    have D_HT_gx := k_ (Apt_ge hA (blk_lt HX.out))
    have D_HT_gr := k_ (Apt_ge hA (blk_lt HR.out))
    have D_HT_gb := k_ (Apt_ge hA (blk_lt HG.out))
    have HT1 := k_ (Apt_lower hA (below_size HB.out))
    replace HB := k_ (below_step HB.out hb)
    replace HX := k_ (blk_below HX.out hb)
    replace HR := k_ (blk_below HR.out hb)
    replace HG := k_ (blk_below HG.out hb)
    have HT := HT1
    clear HT1 hA hE hus hb
    refine hK.out _ _ (HX.out) (fun hHeld => ?_)
    clear hK K
    refine norm_ (a' := ?_) ?_ ?_
    rotate_left
    ·show Act.put _ (some 13) _ = _
     simp only [Act.put, sP]
     rfl
    refine one_ (i := 9) (N := some 14) mCopS18 rfl rfl (one_of HT_.out (by kernel_rfl)) (by decide) (fun K hK => ?_)
    refine Kd.R_lit_step Kd.string _ 9 ?hg (N := 14) ?hd (xs := ([] : List ByteArray)) (inner := []) (ok := fun _ => True) (okp := fun _ => True) ?hr ?hp (fun _ hk => hk) trivial (Below.refl _ _) (Nat.le_refl _) (by simp) ?_; (case hd => rfl); (case hg => rfl); (case hr => first | (go_simp; done) | (go_simp; rfl)); (case hp => exact (Reps.none _ _))
    intro v0 w6 ho hb hg_ hnew_
    clear hg_ hnew_
    have HE1 := Apt_str ho
    have D_HE0_gx := k_ (Apt_ge HE1 (blk_lt HX.out))
    have D_HE0_gr := k_ (Apt_ge HE1 (blk_lt HR.out))
    have D_HE0_gb := k_ (Apt_ge HE1 (blk_lt HG.out))
    have E_T := k_ (show ∀ b ∈ blS [.lf (.int .i64 x.f3.f0), strR (.slice P1 x.f3.f1.length q1) x.f3.f1, .row 32 3 x.f3.f2.length (.slice P2 x.f3.f2.length q2) us], ∀ c ∈ blS [strR v0 []], b ≠ c from fun b hb' c hc => by have := Apt_lt HT.out b hb'; have := (OkS_in _ HE1.1 c hc).1; omega)
    have HE2 := k_ (Apt_lower HE1 (below_size HB.out))
    replace HB := k_ (below_step HB.out hb)
    replace HX := k_ (blk_below HX.out hb)
    replace HR := k_ (blk_below HR.out hb)
    replace HG := k_ (blk_below HG.out hb)
    replace HT := k_ (Apt_below HT.out hb)
    have HE0 := HE2
    clear HE1 HE2 ho hb
    refine hK.out _ _ (HX.out) (fun hHeld => ?_)
    clear hK K
    refine norm_ (a' := ?_) ?_ ?_
    rotate_left
    ·show Act.put _ (some 14) _ = _
     simp only [Act.put, sP]
     rfl
    refine one_ (i := 12) (N := some 17) mCopS19 rfl rfl (one_of HT_.out (by kernel_rfl)) (by decide) (fun K hK => ?_)
    refine Kd.R_append_rows_step Kd.string (w0 := w) w.heap.size (by rfl) (.tmp 14) (.tmp 16) 22 9 (.string ⟨#[]⟩) 16 rfl Tryd.underlying22 info9 rfl (by decide) (by omega) v0 ([] : List ByteArray) x.f4 _ _ _ (fun _ => True) (fun _ => False) rfl rfl ?aO ?aR (fun _ _ h => h) (fun _ h => h.elim) ?aF ?aB ?aS ?aL ?_
    (case aR => exact Kd.C_below R3.out.1 HB.out)
    (case aB => exact HB.out)
    (case aF => exact fun _ _ => trivial)
    (case aO => exact Kd.R_mono (R_of_strR (by have := HE0.out.1; simp only [OkS, and_true] at this; exact this)) (fun _ _ => trivial))
    (case aS => exact below_size HB.out)
    (case aL => have := SM.out.p4.1; simp only [List.length_nil]; omega)
    intro v1 w7 ho hb1 hg1 hat1
    replace ho : Kd.R Kd.string 9 w7 w.heap.size (fun _ => True) v1 x.f4 := ho
    obtain ⟨Ao, co, rfl⟩ := Kd.R_slice ho
    have D_HL_gx := k_ (show ∀ b ∈ blS [strR (.slice Ao x.f4.length co) x.f4], b ≠ gx from Dgrow D_HE0_gx.out (blk_lt HX.out) hat1)
    have D_HL_gr := k_ (show ∀ b ∈ blS [strR (.slice Ao x.f4.length co) x.f4], b ≠ gr from Dgrow D_HE0_gr.out (blk_lt HR.out) hat1)
    have D_HL_gb := k_ (show ∀ b ∈ blS [strR (.slice Ao x.f4.length co) x.f4], b ≠ gb from Dgrow D_HE0_gb.out (blk_lt HG.out) hat1)
    have E_L := k_ (show ∀ b ∈ blS [.lf (.int .i64 x.f3.f0), strR (.slice P1 x.f3.f1.length q1) x.f3.f1, .row 32 3 x.f3.f2.length (.slice P2 x.f3.f2.length q2) us], ∀ c ∈ blS [strR (.slice Ao x.f4.length co) x.f4], b ≠ c from fun b hb' c hc => (Dgrow (fun c' hc' => (E_T.out b hb' c' hc').symm) (Apt_lt HT.out b hb') hat1 c hc).symm)
    have HL1 := k_ (Apt_str ho)
    replace HB := k_ (hb1)
    replace HX := k_ (blk_grown HX.out hg1 (fun he => D_HE0_gx.out gx (strR_own he.symm) rfl))
    replace HR := k_ (blk_grown HR.out hg1 (fun he => D_HE0_gr.out gr (strR_own he.symm) rfl))
    replace HG := k_ (blk_grown HG.out hg1 (fun he => D_HE0_gb.out gb (strR_own he.symm) rfl))
    replace HT := k_ (Apt_grown HT.out hg1 (fun b hb_ he => E_T.out b hb_ b (strR_own he.symm) rfl))
    have HL := HL1
    clear HE0 HL1 ho hb1 hg1 hat1
    refine hK.out _ _ (HX.out) (fun hHeld => ?_)
    clear hK K
    refine norm_ (a' := ?_) ?_ ?_
    rotate_left
    ·show Act.put _ (some 17) _ = _
     simp only [Act.put, sP]
     rfl
    refine pure_ (i := 13) (N := some 18) (v := ?_) (a' := ?_) mCopS21 rfl rfl (any_of HT_.out (by kernel_rfl)) (fun _ _ _ h => h) (Or.inl ⟨by rfl, ?_⟩) ?_ ?_
    rotate_left
    ·intro w'
     go_simp
     try with_reducible rfl
    rotate_left
    ·simp only [Act.put, sP]
     rfl
    exact norm_ (by simp only [putAll, Act.put, sP]) (hCont ((.slice P1 x.f3.f1.length q1), (.slice P2 x.f3.f2.length q2), (.slice Ao x.f4.length co), us, v0, gb) _ ⟨hHeld, Apt_both HT.out HL.out E_L.out, Dapp D_HT_gr.out D_HL_gr.out, Dapp D_HT_gb.out D_HL_gb.out, HUS.out, HX.out, HR.out, HG.out, HB.out, G_gb.out, N_gx_gb.out, N_gr_gb.out⟩)
   ·refine Kd.R_lit_step Kd.string _ 9 ?hg (N := 14) ?hd (xs := ([] : List ByteArray)) (inner := []) (ok := fun _ => True) (okp := fun _ => True) ?hr ?hp (fun _ hk => hk) trivial (Below.refl _ _) (Nat.le_refl _) (by simp) ?_; (case hd => rfl); (case hg => rfl); (case hr => first | (go_simp; done) | (go_simp; rfl)); (case hp => exact (Reps.none _ _))
    intro v0 w5 ho hb hg_ hnew_
    clear hg_ hnew_
    have HE1 := Apt_str ho
    have D_HE0_gx := k_ (Apt_ge HE1 (blk_lt HX.out))
    have D_HE0_gr := k_ (Apt_ge HE1 (blk_lt HR.out))
    have D_HE0_gb := k_ (Apt_ge HE1 (blk_lt HG.out))
    have HE2 := k_ (Apt_lower HE1 (below_size HB.out))
    replace HB := k_ (below_step HB.out hb)
    replace HX := k_ (blk_below HX.out hb)
    replace HR := k_ (blk_below HR.out hb)
    replace HG := k_ (blk_below HG.out hb)
    have HE0 := HE2
    clear HE1 HE2 ho hb
    refine hK.out _ _ (HX.out) (fun hHeld => ?_)
    clear hK K
    refine norm_ (a' := ?_) ?_ ?_
    rotate_left
    ·show Act.put _ (some 14) _ = _
     simp only [Act.put, sP]
     rfl
    refine one_ (i := 8) (N := some 13) mCopS18 rfl rfl (one_of HT_.out (by kernel_rfl)) (by decide) (fun K hK => ?_)
    refine goes_ Tryd.func42 (by kernel_rfl) rfl #[.agg #[.int .i64 x.f3.f0, .slice A1 x.f3.f1.length c1, .slice A2 x.f3.f2.length c2]] (by rfl) rfl rfl (by (try simp only [List.map_toArray, List.map_cons, List.map_nil]); first | done | rfl) ?_
    refine (l3Copy_st x.f3 SM.out.p3 A1 c1 A2 c2 _ ⟨Kd.C_below R1.out.1 HB.out, R1.out.2⟩ ⟨Kd.C_below R2.out.1 HB.out, R2.out.2⟩).mono ?_
    rintro e w6 ⟨hs, rfl, hE, hA, hb⟩
    obtain ⟨P1, q1, P2, q2, us, rfl, hus⟩ := TyE_open hE hA
    refine ⟨.agg #[.int .i64 x.f3.f0, .slice P1 x.f3.f1.length q1, .slice P2 x.f3.f2.length q2], rfl, ?_⟩
    have HUS := k_ hus
    have D_HT_gx := k_ (Apt_ge hA (blk_lt HX.out))
    have D_HT_gr := k_ (Apt_ge hA (blk_lt HR.out))
    have D_HT_gb := k_ (Apt_ge hA (blk_lt HG.out))
    have E_T := k_ (show ∀ b ∈ blS [.lf (.int .i64 x.f3.f0), strR (.slice P1 x.f3.f1.length q1) x.f3.f1, .row 32 3 x.f3.f2.length (.slice P2 x.f3.f2.length q2) us], ∀ c ∈ blS [strR v0 []], b ≠ c from fun b hb' c hc => by have := (OkS_in _ hA.1 b hb').1; have := Apt_lt HE0.out c hc; omega)
    have HT1 := k_ (Apt_lower hA (below_size HB.out))
    replace HB := k_ (below_step HB.out hb)
    replace HX := k_ (blk_below HX.out hb)
    replace HR := k_ (blk_below HR.out hb)
    replace HG := k_ (blk_below HG.out hb)
    replace HE0 := k_ (Apt_below HE0.out hb)
    have HT := HT1
    clear HT1 hA hE hus hb
    refine hK.out _ _ (HX.out) (fun hHeld => ?_)
    clear hK K
    refine norm_ (a' := ?_) ?_ ?_
    rotate_left
    ·show Act.put _ (some 13) _ = _
     simp only [Act.put, sP]
     rfl
    refine one_ (i := 12) (N := some 17) mCopS19 rfl rfl (one_of HT_.out (by kernel_rfl)) (by decide) (fun K hK => ?_)
    refine Kd.R_append_rows_step Kd.string (w0 := w) w.heap.size (by rfl) (.tmp 14) (.tmp 16) 22 9 (.string ⟨#[]⟩) 16 rfl Tryd.underlying22 info9 rfl (by decide) (by omega) v0 ([] : List ByteArray) x.f4 _ _ _ (fun _ => True) (fun _ => False) rfl rfl ?aO ?aR (fun _ _ h => h) (fun _ h => h.elim) ?aF ?aB ?aS ?aL ?_
    (case aR => exact Kd.C_below R3.out.1 HB.out)
    (case aB => exact HB.out)
    (case aF => exact fun _ _ => trivial)
    (case aO => exact Kd.R_mono (R_of_strR (by have := HE0.out.1; simp only [OkS, and_true] at this; exact this)) (fun _ _ => trivial))
    (case aS => exact below_size HB.out)
    (case aL => have := SM.out.p4.1; simp only [List.length_nil]; omega)
    intro v1 w7 ho hb1 hg1 hat1
    replace ho : Kd.R Kd.string 9 w7 w.heap.size (fun _ => True) v1 x.f4 := ho
    obtain ⟨Ao, co, rfl⟩ := Kd.R_slice ho
    have D_HL_gx := k_ (show ∀ b ∈ blS [strR (.slice Ao x.f4.length co) x.f4], b ≠ gx from Dgrow D_HE0_gx.out (blk_lt HX.out) hat1)
    have D_HL_gr := k_ (show ∀ b ∈ blS [strR (.slice Ao x.f4.length co) x.f4], b ≠ gr from Dgrow D_HE0_gr.out (blk_lt HR.out) hat1)
    have D_HL_gb := k_ (show ∀ b ∈ blS [strR (.slice Ao x.f4.length co) x.f4], b ≠ gb from Dgrow D_HE0_gb.out (blk_lt HG.out) hat1)
    have E_L := k_ (show ∀ b ∈ blS [.lf (.int .i64 x.f3.f0), strR (.slice P1 x.f3.f1.length q1) x.f3.f1, .row 32 3 x.f3.f2.length (.slice P2 x.f3.f2.length q2) us], ∀ c ∈ blS [strR (.slice Ao x.f4.length co) x.f4], b ≠ c from fun b hb' c hc => (Dgrow (fun c' hc' => (E_T.out b hb' c' hc').symm) (Apt_lt HT.out b hb') hat1 c hc).symm)
    have HL1 := k_ (Apt_str ho)
    replace HB := k_ (hb1)
    replace HX := k_ (blk_grown HX.out hg1 (fun he => D_HE0_gx.out gx (strR_own he.symm) rfl))
    replace HR := k_ (blk_grown HR.out hg1 (fun he => D_HE0_gr.out gr (strR_own he.symm) rfl))
    replace HG := k_ (blk_grown HG.out hg1 (fun he => D_HE0_gb.out gb (strR_own he.symm) rfl))
    replace HT := k_ (Apt_grown HT.out hg1 (fun b hb_ he => E_T.out b hb_ b (strR_own he.symm) rfl))
    have HL := HL1
    clear HE0 HL1 ho hb1 hg1 hat1
    refine hK.out _ _ (HX.out) (fun hHeld => ?_)
    clear hK K
    refine norm_ (a' := ?_) ?_ ?_
    rotate_left
    ·show Act.put _ (some 17) _ = _
     simp only [Act.put, sP]
     rfl
    refine pure_ (i := 13) (N := some 18) (v := ?_) (a' := ?_) mCopS21 rfl rfl (any_of HT_.out (by kernel_rfl)) (fun _ _ _ h => h) (Or.inl ⟨by rfl, ?_⟩) ?_ ?_
    rotate_left
    ·intro w'
     go_simp
     try with_reducible rfl
    rotate_left
    ·simp only [Act.put, sP]
     rfl
    exact norm_ (by simp only [putAll, Act.put, sP]) (hCont ((.slice P1 x.f3.f1.length q1), (.slice P2 x.f3.f2.length q2), (.slice Ao x.f4.length co), us, v0, gb) _ ⟨hHeld, Apt_both HT.out HL.out E_L.out, Dapp D_HT_gr.out D_HL_gr.out, Dapp D_HT_gb.out D_HL_gb.out, HUS.out, HX.out, HR.out, HG.out, HB.out, G_gb.out, N_gx_gb.out, N_gr_gb.out⟩)
 rintro ⟨v1, v2, v3, us, v0, gb⟩ w9 ⟨hHeld, h0_, h1_, h2_, hu_, h3_, h4_, h5_, h6_, h7_, h8_, h9_⟩
 dsimp only at hHeld h0_ h1_ h2_ hu_ h3_ h4_ h5_ h6_ h7_ h8_ h9_ ⊢
 obtain ⟨P1, q1, rfl⟩ := str_slice (Apt_one (a := [.lf (.int .i64 x.f3.f0)]) (b := [.row 32 3 x.f3.f2.length v2 us, strR v3 x.f4]) h0_)
 obtain ⟨P2, q2, rfl⟩ := row_slice (Apt_one (a := [.lf (.int .i64 x.f3.f0), strR (.slice P1 x.f3.f1.length q1) x.f3.f1]) (b := [strR v3 x.f4]) h0_)
 obtain ⟨Ao, co, rfl⟩ := str_slice (Apt_one (a := [.lf (.int .i64 x.f3.f0), strR (.slice P1 x.f3.f1.length q1) x.f3.f1, .row 32 3 x.f3.f2.length (.slice P2 x.f3.f2.length q2) us]) (b := []) h0_)
 clear HX HR HB
 have HX := k_ h3_; have HR := k_ h4_; have HG := k_ h5_; have HP := k_ h0_; have HB := k_ h6_; have D_HP_gr := k_ h1_; have D_HP_gb := k_ h2_; have HUS := k_ hu_; have G_gb := k_ h7_; have N_gx_gb := k_ h8_; have N_gr_gb := k_ h9_; have N_gb_gx := k_ (Ne.symm h8_); have N_gb_gr := k_ (Ne.symm h9_)
 clear h0_ h1_ h2_ hu_ h3_ h4_ h5_ h6_ h7_ h8_ h9_
 refine norm_ (a' := ?_) ?_ ?_
 rotate_left
 ·simp only [putAll, Act.put, sP]
  rfl
 refine one_ (i := 15) (N := none) mCopS22 rfl rfl (one_of HT_.out (by kernel_rfl)) (by decide) (fun K hK => ?_)
 have r1 := blk8 HG.out
 have z2 := blf8 HG.out
 refine skip_ (w1 := w9.setCells gb 0 [.int .i64 x.f0, .string x.f1, .int .i64 x.f2, .int .i64 x.f3.f0, .slice P1 x.f3.f1.length q1, .slice P2 x.f3.f2.length q2, .slice Ao x.f4.length co, .slice none 0 0]) (by rfl) rfl (by go_simp; rfl) ?_
 obtain ⟨w10, hw⟩ : ∃ w_, w_ = w9.setCells gb 0 [.int .i64 x.f0, .string x.f1, .int .i64 x.f2, .int .i64 x.f3.f0, .slice P1 x.f3.f1.length q1, .slice P2 x.f3.f2.length q2, .slice Ao x.f4.length co, .slice none 0 0] := ⟨_, rfl⟩
 rw [← hw]
 replace HB := k_ (bew hw HB.out G_gb.out)
 replace HX := k_ (bfw hw HX.out N_gx_gb.out)
 replace HR := k_ (bfw hw HR.out N_gr_gb.out)
 replace HG := k_ (show w10.heap[gb]? = some (.cells #[.int .i64 x.f0, .string x.f1, .int .i64 x.f2, .int .i64 x.f3.f0, .slice P1 x.f3.f1.length q1, .slice P2 x.f3.f2.length q2, .slice Ao x.f4.length co, .slice none 0 0] 35 (0, 0)) from bsw hw HG.out (by simp only [putA, sP, Nat.zero_add, Nat.reduceAdd]))
 replace HP := k_ (apw hw HP.out D_HP_gb.out)
 clear hw
 refine hK.out _ _ (HX.out) (fun hHeld => ?_)
 clear hK K
 refine done_ (done_of HT_.out (by kernel_rfl)) ?_
 clear HT_ HW_
 clear hHeld
 obtain ⟨n1, hn1⟩ : ∃ n, n = w10.heap.size := ⟨_, rfl⟩
 have L_gx := k_ (limB hn1 HX.out)
 have L_gr := k_ (limB hn1 HR.out)
 have L_gb := k_ (limB hn1 HG.out)
 have L_HP := k_ (limA hn1 HP.out)
 have L_w := k_ (limW hn1 HB.out)
 have LN := k_ (show n1 ≤ w10.heap.size by rw [hn1]; exact Nat.le_refl _)
 try go_wp2
 go_loopg [4] x.f5.length (fun gq v4 w' => ∃ (i : Nat) (cs : List HT) (u : Value), v4 = .int .i64 (i : Int) ∧ Aside0 (i + gq = x.f5.length) ∧ Aside0 (TeES (x.f5.take i) cs) ∧ Aside0 (Apt w' n1 [HT.row 35 8 i u cs]) ∧ Aside0 (w'.heap[gx]? = some (.cells #[.int .i64 x.f0, .string x.f1, .int .i64 x.f2, .int .i64 x.f3.f0, .slice A1 x.f3.f1.length c1, .slice A2 x.f3.f2.length c2, .slice A3 x.f4.length c3, .slice A4 x.f5.length c4] 35 (0, 0))) ∧ Aside0 (w'.heap[gr]? = some (.cells #[.int .i64 0, .string ⟨#[]⟩, .int .i64 0, .int .i64 0, .slice none 0 0, .slice none 0 0, .slice none 0 0, .slice none 0 0] 35 (0, 0))) ∧ Aside0 (w'.heap[gb]? = some (.cells #[.int .i64 x.f0, .string x.f1, .int .i64 x.f2, .int .i64 x.f3.f0, .slice P1 x.f3.f1.length q1, .slice P2 x.f3.f2.length q2, .slice Ao x.f4.length co, u] 35 (0, 0))) ∧ Aside0 (Apt w' w.heap.size [.lf (.int .i64 x.f3.f0), strR (.slice P1 x.f3.f1.length q1) x.f3.f1, .row 32 3 x.f3.f2.length (.slice P2 x.f3.f2.length q2) us, strR (.slice Ao x.f4.length co) x.f4]) ∧ Aside0 (Below w.heap.size w w') ∧ Aside0 (n1 ≤ w'.heap.size))
 case atStart => exact ⟨0, [], .slice none 0 0, rfl, ⟨by omega⟩, ⟨by simp [TeES]⟩, ⟨row_nil _ _ _ _⟩, HX, HR, HG, HP, HB, LN⟩
 case round =>
  clear HX HR HG HP HB LN
  obtain ⟨i, cs, u, rfl, HI, HE, HQ, HX, HR, HG, HP, HB, LN⟩ := hrel
  obtain ⟨Au, cu, rfl⟩ := row_slice HQ.out
  have D_HQ_gx := k_ (Apt_ge HQ.out L_gx.out)
  have D_HQ_gr := k_ (Apt_ge HQ.out L_gr.out)
  have D_HQ_gb := k_ (Apt_ge HQ.out L_gb.out)
  by_cases d1 : i < x.f5.length
  ·have HD := k_ d1
   have d2 : (i : Int) < (x.f5.length : Int) := by omega
   have d3 : decide ((i : Int) < (x.f5.length : Int)) = true := decide_eq_true d2
   have d4 := eq_true d2
   have d5 : (0 ≤ (i : Int)) = True := eq_true (by omega)
   obtain ⟨ad, B1, e1, B2, e2, B3, e3, B4, e4, eA, y0, y1, y2, y3, y4, y5, y6, y7, m1, o1, m2, o2, m3, o3, m4, o4⟩ := at_T35 R4.out.1 (i : Int) (by omega) d2
   cases eA
   obtain ⟨y, hy⟩ : ∃ y, y = rd_T35 x.f5 (i : Int) := ⟨_, rfl⟩
   rw [← hy] at y0 y1 y2 y3 y4 y5 y6 y7 m1 o1 m2 o2 m3 o3 m4 o4
   have HY := k_ (show y = x.f5.getD i z35 by rw [hy]; rfl)
   simp only [Int.toNat_natCast] at y0 y1 y2 y3 y4 y5 y6 y7
   have M1 := k_ (And.intro o1 m1); have M2 := k_ (And.intro o2 m2); have M3 := k_ (And.intro o3 m3); have M4 := k_ (And.intro o4 m4)
   clear m1 o1 m2 o2 m3 o3 m4 o4 hy d1
   have hwi : wrap64 ((i : Int) + 1) = ((i + 1 : Nat) : Int) := by have h1 := SM.out.p5.1; have h2 := HD.out; unfold wrap64; omega
   have r3 := blk8 HX.out
   try go_wp2
   replace HX := k_ (blk_drew HX.out)
   replace HR := k_ (blk_drew HR.out)
   replace HG := k_ (blk_drew HG.out)
   replace HP := k_ (Apt_below HP.out (below_drew1 (Below.refl _ _)))
   replace HB := k_ (below_drew1 HB.out)
   replace LN := k_ (show n1 ≤ wr.drew.heap.size from LN.out)
   replace HQ := k_ (Apt_below HQ.out (below_drew1 (Below.refl _ _)))
   refine start_ (n := 12) (S := fun w' => (w'.heap[gb]? = some (.cells #[.int .i64 x.f0, .string x.f1, .int .i64 x.f2, .int .i64 x.f3.f0, .slice P1 x.f3.f1.length q1, .slice P2 x.f3.f2.length q2, .slice Ao x.f4.length co, .slice Au i cu] 35 (0, 0))) ∧ (w'.heap[gx]? = some (.cells #[.int .i64 x.f0, .string x.f1, .int .i64 x.f2, .int .i64 x.f3.f0, .slice A1 x.f3.f1.length c1, .slice A2 x.f3.f2.length c2, .slice A3 x.f4.length c3, .slice (some ad) x.f5.length c4] 35 (0, 0))) ∧ w'.cell? (ad.add (i * 8)) = some (.int .i64 y.f0) ∧ w'.cell? ⟨(ad.add (i * 8)).block, (ad.add (i * 8)).off + 1, none⟩ = some (.string y.f1) ∧ w'.cell? ⟨(ad.add (i * 8)).block, (ad.add (i * 8)).off + 2, none⟩ = some (.int .i64 y.f2) ∧ w'.cell? ⟨(ad.add (i * 8)).block, (ad.add (i * 8)).off + 3, none⟩ = some (.int .i64 y.f3.f0) ∧ w'.cell? ⟨(ad.add (i * 8)).block, (ad.add (i * 8)).off + 4, none⟩ = some (.slice B1 y.f3.f1.length e1) ∧ w'.cell? ⟨(ad.add (i * 8)).block, (ad.add (i * 8)).off + 5, none⟩ = some (.slice B2 y.f3.f2.length e2) ∧ w'.cell? ⟨(ad.add (i * 8)).block, (ad.add (i * 8)).off + 6, none⟩ = some (.slice B3 y.f4.length e3) ∧ w'.cell? ⟨(ad.add (i * 8)).block, (ad.add (i * 8)).off + 7, none⟩ = some (.slice B4 y.f5.length e4)) (ds := [11]) mCopS23 (by kernel_rfl) rfl rfl ⟨HG.out, HX.out, pw_cell_below HB.out y0, pw_cell_below HB.out y1, pw_cell_below HB.out y2, pw_cell_below HB.out y3, pw_cell_below HB.out y4, pw_cell_below HB.out y5, pw_cell_below HB.out y6, pw_cell_below HB.out y7⟩ (fun hHeld => ?_); refine with_tabW tabCE.tab5 tabCE.bits5 (fun HT_ HW_ => ?_)
   generalize wr.drew = w11 at HX HR HG HP HB LN HQ hHeld ⊢
   refine pure_ (i := 0) (N := some 26) (v := ?_) (a' := ?_) mCopS24 rfl rfl (any_of HT_.out (by kernel_rfl)) (fun _ _ _ h => h) (Or.inl ⟨by rfl, ?_⟩) ?_ ?_
   rotate_left
   ·intro w'
    go_simp
    try with_reducible rfl
   rotate_left
   ·simp only [Act.put, sP]
    rfl
   refine pure_ (i := 2) (N := some 28) (v := ?_) (a' := ?_) mCopS25 rfl rfl (any_of HT_.out (by kernel_rfl)) (fun _ _ _ h => h) (Or.inl ⟨by rfl, ?_⟩) ?_ ?_
   rotate_left
   ·intro w'
    go_simp
    try with_reducible rfl
   rotate_left
   ·simp only [Act.put, sP]
    rfl
   refine pure_ (i := 4) (N := some 30) (v := ?_) (a' := ?_) mCopS26 rfl rfl (any_of HT_.out (by kernel_rfl)) (fun _ _ _ h => h) (Or.inl ⟨by rfl, ?_⟩) ?_ ?_
   rotate_left
   ·intro w'
    go_simp
    try with_reducible rfl
   rotate_left
   ·simp only [Act.put, sP]
    rfl
   refine take_ (i := 1) (N := some 27) (v := ?_) (a' := ?_) mCopS27 rfl rfl (take_ofW HT_.out HW_.out (by kernel_rfl)) (fun _ _ _ h => h) (Or.inl ⟨by rfl, ?_⟩) hHeld ?_ ?_
   rotate_left
   ·rintro w' ⟨s0, s1, s2, s3, s4, s5, s6, s7, s8, s9⟩
    have q0 := blk8 s0
    have q1 := blk8 s1
    go_simp
    with_reducible rfl
   rotate_left
   ·simp only [Act.put, sP]
    rfl
   refine take_ (i := 3) (N := some 29) (v := ?_) (a' := ?_) mCopS28 rfl rfl (take_ofW HT_.out HW_.out (by kernel_rfl)) (fun _ _ _ h => h) (Or.inl ⟨by rfl, ?_⟩) hHeld ?_ ?_
   rotate_left
   ·rintro w' ⟨s0, s1, s2, s3, s4, s5, s6, s7, s8, s9⟩
    have q0 := blk8 s0
    have q1 := blk8 s1
    go_simp
    with_reducible rfl
   rotate_left
   ·simp only [Act.put, sP]
    rfl
   refine pure_ (i := 5) (N := some 31) (v := ?_) (a' := ?_) mCopS29 rfl rfl (any_of HT_.out (by kernel_rfl)) (fun _ _ _ h => h) (Or.inl ⟨by rfl, ?_⟩) ?_ ?_
   rotate_left
   ·intro w'
    go_simp
    try with_reducible rfl
   rotate_left
   ·simp only [Act.put, sP]
    rfl
   refine take_ (i := 6) (N := some 32) (v := ?_) (a' := ?_) mCopS30 rfl rfl (take_ofW HT_.out HW_.out (by kernel_rfl)) (fun _ _ _ h => h) (Or.inl ⟨by rfl, ?_⟩) hHeld ?_ ?_
   rotate_left
   ·rintro w' ⟨s0, s1, s2, s3, s4, s5, s6, s7, s8, s9⟩
    have q0 := blk8 s0
    have q1 := blk8 s1
    go_simp
    with_reducible rfl
   rotate_left
   ·simp only [Act.put, sP]
    rfl
   refine one_ (i := 7) (N := some 33) mCopS31 rfl rfl (one_of HT_.out (by kernel_rfl)) (by decide) (fun K hK => ?_)
   have HM := k_ (Apt_lt HQ.out)
   have HW0 := k_ (show n1 ≤ w11.heap.size from LN.out)
   refine goes_ Tryd.func14 (by kernel_rfl) rfl #[.agg #[.int .i64 y.f0, .string y.f1, .int .i64 y.f2, .int .i64 y.f3.f0, .slice B1 y.f3.f1.length e1, .slice B2 y.f3.f2.length e2, .slice B3 y.f4.length e3, .slice B4 y.f5.length e4]] (by rfl) rfl rfl (by (try simp only [List.map_toArray, List.map_cons, List.map_nil]); first | done | rfl) ?_
   refine (IH.out y (by rw [HY.out]; exact mem_getD x.f5 z35 i HD.out) B1 e1 B2 e2 B3 e3 B4 e4 _ ⟨Kd.C_below M1.out.1 HB.out, M1.out.2⟩ ⟨Kd.C_below M2.out.1 HB.out, M2.out.2⟩ ⟨Kd.C_below M3.out.1 HB.out, M3.out.2⟩ ⟨Kd.C_below M4.out.1 HB.out, M4.out.2⟩).mono ?_
   rintro e w12 ⟨hs, rfl, hE, hA, hb⟩
   obtain ⟨Q1, cq1, Q2, cq2, Q3, cq3, Q4, cq4, us', ds, rfl, hus', hds⟩ := TeE_open hE hA
   refine ⟨.agg #[.int .i64 y.f0, .string y.f1, .int .i64 y.f2, .int .i64 y.f3.f0, .slice Q1 y.f3.f1.length cq1, .slice Q2 y.f3.f2.length cq2, .slice Q3 y.f4.length cq3, .slice Q4 y.f5.length cq4], rfl, ?_⟩
   replace HX := k_ (blk_below HX.out hb)
   replace HR := k_ (blk_below HR.out hb)
   replace HG := k_ (blk_below HG.out hb)
   replace HP := k_ (Apt_below HP.out hb)
   replace HB := k_ (below_step HB.out hb)
   replace LN := k_ (Nat.le_trans LN.out (below_size hb))
   replace HQ := k_ (Apt_below HQ.out hb)
   have HW1 := k_ (show n1 ≤ w12.heap.size from LN.out)
   have HH := k_ hA; have HEy := k_ hE
   clear hA hE hds hb hus'
   refine hK.out _ _ ⟨HG.out, HX.out, pw_cell_below HB.out y0, pw_cell_below HB.out y1, pw_cell_below HB.out y2, pw_cell_below HB.out y3, pw_cell_below HB.out y4, pw_cell_below HB.out y5, pw_cell_below HB.out y6, pw_cell_below HB.out y7⟩ (fun hHeld => ?_)
   clear hK K
   refine norm_ (a' := ?_) ?_ ?_
   rotate_left
   ·show Act.put _ (some 33) _ = _
    simp only [Act.put, sP]
    rfl
   refine one_ (i := 8) (N := some 34) mCopS32 rfl rfl (one_of HT_.out (by kernel_rfl)) (by decide) (fun K hK => ?_)
   refine value_ (w1 := ?_) (v := ?_) (by rfl) rfl ?_ ?_
   rotate_left 2
   ·go_simp
    constructor
    ·rfl
    ·rfl
   refine hK.out _ _ ⟨blk_alloc HG.out _, blk_alloc HX.out _, pw_cell_below (below_alloc HB.out _) y0, pw_cell_below (below_alloc HB.out _) y1, pw_cell_below (below_alloc HB.out _) y2, pw_cell_below (below_alloc HB.out _) y3, pw_cell_below (below_alloc HB.out _) y4, pw_cell_below (below_alloc HB.out _) y5, pw_cell_below (below_alloc HB.out _) y6, pw_cell_below (below_alloc HB.out _) y7⟩ (fun hHeld => ?_)
   clear hK K
   refine norm_ (a' := ?_) ?_ ?_
   rotate_left
   ·show Act.put _ (some 34) _ = _
    simp only [Act.put, sP]
    rfl
   refine one_ (i := 9) (N := some 35) mCopS33 rfl rfl (one_of HT_.out (by kernel_rfl)) (by decide) (fun K hK => ?_)
   refine step_append_cells (w0 := w) w.heap.size (by rfl) (.tmp 27) (.tmp 34) 33 35 (.agg #[.int .i64 0, .string ⟨#[]⟩, .int .i64 0, .int .i64 0, .slice none 0 0, .slice none 0 0, .slice none 0 0, .slice none 0 0]) 8 136 rfl Tryd.underlying33 info35 rfl (by decide) (by decide) (.slice Au i cu) i (cs.map HT.val) (List.map HT.val [.lf (.int .i64 y.f0), .lf (.string y.f1), .lf (.int .i64 y.f2), .lf (.int .i64 y.f3.f0), strR (.slice Q1 y.f3.f1.length cq1) y.f3.f1, .row 32 3 y.f3.f2.length (.slice Q2 y.f3.f2.length cq2) us', strR (.slice Q3 y.f4.length cq3) y.f4, .row 35 8 y.f5.length (.slice Q4 y.f5.length cq4) ds]) rfl rfl rfl (OkS_one HH.out.1) (own_weaken (row_cells HQ.out) L_w.out) HB.out (below_size HB.out) (by have := SM.out.p5.1; have := HD.out; omega) ?_
   intro u1 w13 ho1 hb1 hg1 hat1
   obtain ⟨Av, cv, rfl⟩ := own_slice ho1
   have HQ1 := k_ (row_append HQ.out HH.out HM.out HW0.out HW1.out ho1 hg1 hat1)
   replace HX := k_ (blk_grown HX.out hg1 (fun he => D_HQ_gx.out gx (row_own he.symm) rfl))
   replace HR := k_ (blk_grown HR.out hg1 (fun he => D_HQ_gr.out gr (row_own he.symm) rfl))
   replace HG := k_ (blk_grown HG.out hg1 (fun he => D_HQ_gb.out gb (row_own he.symm) rfl))
   replace HP := k_ (Apt_grown HP.out hg1 (fun b hb he => by have h1 := L_HP.out b hb; have h2 := (OkS_in _ HQ.out.1 b (row_own he.symm)).1; omega))
   replace HB := k_ (hb1)
   replace LN := k_ (Nat.le_trans LN.out hg1.size)
   clear HQ HH HM HW0 HW1 D_HQ_gx D_HQ_gr D_HQ_gb
   have HQ := HQ1
   clear HQ1 ho1 hb1 hg1 hat1
   have D_HQ_gx := k_ (Apt_ge HQ.out L_gx.out)
   have D_HQ_gr := k_ (Apt_ge HQ.out L_gr.out)
   have D_HQ_gb := k_ (Apt_ge HQ.out L_gb.out)
   refine hK.out _ _ ⟨HG.out, HX.out, pw_cell_below HB.out y0, pw_cell_below HB.out y1, pw_cell_below HB.out y2, pw_cell_below HB.out y3, pw_cell_below HB.out y4, pw_cell_below HB.out y5, pw_cell_below HB.out y6, pw_cell_below HB.out y7⟩ (fun hHeld => ?_)
   clear hK K
   refine norm_ (a' := ?_) ?_ ?_
   rotate_left
   ·show Act.put _ (some 35) _ = _
    simp only [Act.put, sP]
    rfl
   refine pure_ (i := 10) (N := some 36) (v := ?_) (a' := ?_) mCopS34 rfl rfl (any_of HT_.out (by kernel_rfl)) (fun _ _ _ h => h) (Or.inl ⟨by rfl, ?_⟩) ?_ ?_
   rotate_left
   ·intro w'
    go_simp
    try with_reducible rfl
   rotate_left
   ·simp only [Act.put, sP]
    rfl
   refine last_ (i := 11) (N := none) mCopS35 rfl rfl (one_of HT_.out (by kernel_rfl)) (by decide) (fun K hK => ?_)
   have r4 := blk8 HG.out
   have z5 := blf8 HG.out
   refine skip_ (w1 := w13.setCells gb 7 [.slice Av (i + 1) cv]) (by rfl) rfl (by go_simp; rfl) ?_
   obtain ⟨w14, hw⟩ : ∃ w_, w_ = w13.setCells gb 7 [.slice Av (i + 1) cv] := ⟨_, rfl⟩
   rw [← hw]
   replace HX := k_ (bfw hw HX.out N_gx_gb.out)
   replace HR := k_ (bfw hw HR.out N_gr_gb.out)
   replace HG := k_ (show w14.heap[gb]? = some (.cells #[.int .i64 x.f0, .string x.f1, .int .i64 x.f2, .int .i64 x.f3.f0, .slice P1 x.f3.f1.length q1, .slice P2 x.f3.f2.length q2, .slice Ao x.f4.length co, .slice Av (i + 1) cv] 35 (0, 0)) from bsw hw HG.out (by simp only [putA, sP, Nat.zero_add, Nat.reduceAdd]))
   replace HP := k_ (apw hw HP.out D_HP_gb.out)
   replace HB := k_ (bew hw HB.out G_gb.out)
   replace LN := k_ (siw hw LN.out)
   replace HQ := k_ (apw hw HQ.out D_HQ_gb.out)
   clear hw
   refine hK.out _ _ ?_
   clear hK K
   refine done_ (done_of HT_.out (by kernel_rfl)) ?_
   clear HT_ HW_
   try go_wp2
   go_roundg (gk - 1)
   case measure => have := HI.out; have := HD.out; omega
   case rel => exact ⟨i + 1, _, _, (by first | rfl | rw [hwi] | simp [hwi]), ⟨by have := HI.out; have := HD.out; omega⟩, ⟨by rw [take_one x.f5 z35 i HD.out, ← HY.out]; exact TeES_snoc _ _ _ _ HE.out HEy.out⟩, HQ, HX, HR, HG, HP, HB, LN⟩
  ·have d3 : decide ((i : Int) < (x.f5.length : Int)) = false := decide_eq_false (by omega)
   have d4 : ((i : Int) < (x.f5.length : Int)) = False := eq_false (by omega)
   have hz : i = x.f5.length := by have := HI.out; omega
   subst hz
   rw [List.take_length] at HE
   clear d1
   have r6 := blk8 HG.out
   have r7 := blk8 HX.out
   go_wp2_with (first | ((with_reducible refine gate_store (t := 35) (p := 2) rfl ?_); have r8 := blk8 HR.out; have z9 := blf8 HR.out; refine store_event (t := 35) (p := 2) (v := ?vo_10) (w1 := wr.setCells gr 0 [.int .i64 x.f0, .string x.f1, .int .i64 x.f2, .int .i64 x.f3.f0, .slice P1 x.f3.f1.length q1, .slice P2 x.f3.f2.length q2, .slice Ao x.f4.length co, .slice Au x.f5.length cu]) ?hg ?ho ?hn ?hr ?_; (case ho => rfl); (case hg => rfl); (case hn => rfl); (case hr => first | (go_simp; done) | (go_simp; rfl)); intro w11 hw; replace HX := k_ (bfw hw HX.out N_gx_gr.out); replace HR := k_ (show w11.heap[gr]? = some (.cells #[.int .i64 x.f0, .string x.f1, .int .i64 x.f2, .int .i64 x.f3.f0, .slice P1 x.f3.f1.length q1, .slice P2 x.f3.f2.length q2, .slice Ao x.f4.length co, .slice Au x.f5.length cu] 35 (0, 0)) from bsw hw HR.out (by simp only [putA, sP, Nat.zero_add, Nat.reduceAdd])); replace HG := k_ (bfw hw HG.out N_gb_gr.out); replace HP := k_ (apw hw HP.out D_HP_gr.out); replace HB := k_ (bew hw HB.out G_gr.out); replace LN := k_ (siw hw LN.out); replace HQ := k_ (apw hw HQ.out D_HQ_gr.out); clear hw; have r11 := blk8 HR.out))
   refine bodyPost_ret (results_cell_row rfl _ _ gr 35 #[.int .i64 x.f0, .string x.f1, .int .i64 x.f2, .int .i64 x.f3.f0, .slice P1 x.f3.f1.length q1, .slice P2 x.f3.f2.length q2, .slice Ao x.f4.length co, .slice Au x.f5.length cu] (0, 0) _ rfl HR.out Tryd.underlying35 rfl (by kernel_rfl)) rfl ?_
   exact ⟨[.lf (.int .i64 x.f0), .lf (.string x.f1), .lf (.int .i64 x.f2)] ++ [.lf (.int .i64 x.f3.f0), strR (.slice P1 x.f3.f1.length q1) x.f3.f1, .row 32 3 x.f3.f2.length (.slice P2 x.f3.f2.length q2) us, strR (.slice Ao x.f4.length co) x.f4] ++ [HT.row 35 8 x.f5.length (.slice Au x.f5.length cu) cs], rfl, (TeE_eq _ _).2 ⟨[.lf (.int .i64 x.f3.f0), strR (.slice P1 x.f3.f1.length q1) x.f3.f1, .row 32 3 x.f3.f2.length (.slice P2 x.f3.f2.length q2) us], _, _, _, rfl, (TyE_eq _ _).2 ⟨_, _, _, rfl, HUS.out⟩, HE.out⟩, Apt_join (a := [.lf (.int .i64 x.f0), .lf (.string x.f1), .lf (.int .i64 x.f2)] ++ [.lf (.int .i64 x.f3.f0), strR (.slice P1 x.f3.f1.length q1) x.f3.f1, .row 32 3 x.f3.f2.length (.slice P2 x.f3.f2.length q2) us, strR (.slice Ao x.f4.length co) x.f4]) (Apt_lf _ rfl (Apt_lf _ rfl (Apt_lf _ rfl HP.out))) HQ.out (fun b hb => L_HP.out b (by simpa only [List.cons_append, List.nil_append, blS_lf] using hb)) L_w.out, HB.out⟩
end Go.Proofs.YtpckkjeapfdilaaDoor.Px
