/- Marked terms, and what the held functions find in them. No condition beyond the sizes named. -/
import Derived.Test.YtpckkjeapfdilaaDoorZSubstTermSh
import Derived.Test.YtpckkjeapfdilaaDoorZSubstTermPx0M
import Derived.Test.YtpckkjeapfdilaaDoorZSubstTermPx14M
import Derived.Test.YtpckkjeapfdilaaDoorZSubstTermPx17M
import Derived.Test.YtpckkjeapfdilaaDoorZSubstTermPlM
import Derived.Test.YtpckkjeapfdilaaDoorZSubstTermPxHt2M
import Derived.Test.YtpckkjeapfdilaaDoorZSubstTermWLastM
import Derived.Laws.EntriesVeiled
import Derived.Tactics2
import Derived.BigCall
import Derived.Test.YtpckkjeapfdilaaDoorZSubstTermPx6M
section
namespace Go.Proofs.YtpckkjeapfdilaaDoor.Px
open Go.RowKit Go.Proofs.YtpckkjeapfdilaaDoorW.PrintWords Go.Proofs.YtpckkjeapfdilaaDoorW.PrintLast Go.Proofs.YtpckkjeapfdilaaDoor.Pl Go.Proofs.YtpckkjeapfdilaaDoor.Ext
set_option linter.unusedVariables false
set_option linter.unusedSimpArgs false
mutual
noncomputable def mkType : S32 → Int → S32
 | ⟨x0, x1, x2⟩, a => ⟨a, mtS (a + 1) x1.length, mkTypeS x2 (a + 1 + (x1.length : Nat))⟩
noncomputable def mkTypeS : List S32 → Int → List S32
 | [], _ => []
 | x :: r, a => mkType x a :: mkTypeS r (a + cnType x)
end
mutual
noncomputable def mkTerm : S35 → Int → S35
 | ⟨x0, x1, x2, ⟨t0, t1, t2⟩, x4, x5⟩, a => ⟨a, mt (a + 1), a + 2, ⟨a + 3, mtS (a + 4) t1.length, mkTypeS t2 (a + 4 + (t1.length : Nat))⟩, mtS (a + 4 + (t1.length : Nat) + (cnTypeS t2 : Nat)) x4.length, mkTermS x5 (a + 4 + (t1.length : Nat) + (cnTypeS t2 : Nat) + (x4.length : Nat))⟩
noncomputable def mkTermS : List S35 → Int → List S35
 | [], _ => []
 | x :: r, a => mkTerm x a :: mkTermS r (a + cnTerm x)
end
theorem mkType_eq (x : S32) (a : Int) : mkType x a = ⟨a, mtS (a + 1) x.f1.length, mkTypeS x.f2 (a + 1 + (x.f1.length : Nat))⟩ := by cases x; simp only [mkType]
theorem mkTerm_eq (x : S35) (a : Int) : mkTerm x a = ⟨a, mt (a + 1), a + 2, ⟨a + 3, mtS (a + 4) x.f3.f1.length, mkTypeS x.f3.f2 (a + 4 + (x.f3.f1.length : Nat))⟩, mtS (a + 4 + (x.f3.f1.length : Nat) + (cnTypeS x.f3.f2 : Nat)) x.f4.length, mkTermS x.f5 (a + 4 + (x.f3.f1.length : Nat) + (cnTypeS x.f3.f2 : Nat) + (x.f4.length : Nat))⟩ := by
 obtain ⟨_, _, _, ⟨_, _, _⟩, _, _⟩ := x
 simp only [mkTerm]
theorem mkTypeS_length : ∀ (xs : List S32) (a : Int), (mkTypeS xs a).length = xs.length
 | [], _ => by simp [mkTypeS]
 | x :: r, a => by simp [mkTypeS, mkTypeS_length r]
theorem mkTermS_length : ∀ (xs : List S35) (a : Int), (mkTermS xs a).length = xs.length
 | [], _ => by simp [mkTermS]
 | x :: r, a => by simp [mkTermS, mkTermS_length r]
theorem mkTypeS_append : ∀ (xs ys : List S32) (a : Int), mkTypeS (xs ++ ys) a = mkTypeS xs a ++ mkTypeS ys (a + cnTypeS xs)
 | [], ys, a => by simp [mkTypeS, cnTypeS]
 | x :: r, ys, a => by
  simp only [List.cons_append, mkTypeS, mkTypeS_append r ys, cnTypeS]
  rw [show a + cnType x + (cnTypeS r : Int) = a + ((cnType x + cnTypeS r : Nat) : Int) by omega]
theorem mkTermS_append : ∀ (xs ys : List S35) (a : Int), mkTermS (xs ++ ys) a = mkTermS xs a ++ mkTermS ys (a + cnTermS xs)
 | [], ys, a => by simp [mkTermS, cnTermS]
 | x :: r, ys, a => by
  simp only [List.cons_append, mkTermS, mkTermS_append r ys, cnTermS]
  rw [show a + cnTerm x + (cnTermS r : Int) = a + ((cnTerm x + cnTermS r : Nat) : Int) by omega]
theorem mkTypeS_getD : ∀ (xs : List S32) (i : Nat) (a : Int), i < xs.length → (mkTypeS xs a).getD i z32 = mkType (xs.getD i z32) (a + cnTypeS (xs.take i))
 | [], i, a, h => by simp at h
 | x :: r, 0, a, h => by simp [mkTypeS, cnTypeS]
 | x :: r, i + 1, a, h => by
  have := mkTypeS_getD r i (a + cnType x) (by simpa using h)
  simp only [mkTypeS, List.getD_cons_succ, List.take_succ_cons, cnTypeS, this]
  congr 1
  omega
theorem mkTermS_getD : ∀ (xs : List S35) (i : Nat) (a : Int), i < xs.length → (mkTermS xs a).getD i z35 = mkTerm (xs.getD i z35) (a + cnTermS (xs.take i))
 | [], i, a, h => by simp at h
 | x :: r, 0, a, h => by simp [mkTermS, cnTermS]
 | x :: r, i + 1, a, h => by
  have := mkTermS_getD r i (a + cnTerm x) (by simpa using h)
  simp only [mkTermS, List.getD_cons_succ, List.take_succ_cons, cnTermS, this]
  congr 1
  omega
theorem mkTypeS_step (xs : List S32) (i : Nat) (h : i < xs.length) (a : Int) : (mkTypeS (xs.take i) a ++ xs.drop i).set i (mkType (xs.getD i z32) (a + cnTypeS (xs.take i))) = mkTypeS (xs.take (i + 1)) a ++ xs.drop (i + 1) := by
 have hl : (mkTypeS (xs.take i) a).length = i := by rw [mkTypeS_length, List.length_take]; omega
 rw [List.set_append, if_neg (by omega), hl, Nat.sub_self, List.drop_eq_getElem_cons h, List.set_cons_zero, List.take_succ_eq_append_getElem h, mkTypeS_append]
 simp [mkTypeS, List.getD_eq_getElem?_getD, h]
theorem mkTermS_step (xs : List S35) (i : Nat) (h : i < xs.length) (a : Int) : (mkTermS (xs.take i) a ++ xs.drop i).set i (mkTerm (xs.getD i z35) (a + cnTermS (xs.take i))) = mkTermS (xs.take (i + 1)) a ++ xs.drop (i + 1) := by
 have hl : (mkTermS (xs.take i) a).length = i := by rw [mkTermS_length, List.length_take]; omega
 rw [List.set_append, if_neg (by omega), hl, Nat.sub_self, List.drop_eq_getElem_cons h, List.set_cons_zero, List.take_succ_eq_append_getElem h, mkTermS_append]
 simp [mkTermS, List.getD_eq_getElem?_getD, h]
theorem mkTypeS_at (xs : List S32) (i : Nat) (h : i < xs.length) (a : Int) : (mkTypeS (xs.take i) a ++ xs.drop i).getD i z32 = xs.getD i z32 := by
 have hl : (mkTypeS (xs.take i) a).length = i := by rw [mkTypeS_length, List.length_take]; omega
 rw [List.getD_eq_getElem?_getD, List.getElem?_append_right (by omega), hl, Nat.sub_self, List.getElem?_drop, Nat.add_zero, List.getD_eq_getElem?_getD]
theorem mkTermS_at (xs : List S35) (i : Nat) (h : i < xs.length) (a : Int) : (mkTermS (xs.take i) a ++ xs.drop i).getD i z35 = xs.getD i z35 := by
 have hl : (mkTermS (xs.take i) a).length = i := by rw [mkTermS_length, List.length_take]; omega
 rw [List.getD_eq_getElem?_getD, List.getElem?_append_right (by omega), hl, Nat.sub_self, List.getElem?_drop, Nat.add_zero, List.getD_eq_getElem?_getD]
theorem mkTypeS_len (xs : List S32) (i : Nat) (a : Int) : (mkTypeS (xs.take i) a ++ xs.drop i).length = xs.length := by
 rw [List.length_append, mkTypeS_length, List.length_take, List.length_drop]; omega
theorem mkTermS_len (xs : List S35) (i : Nat) (a : Int) : (mkTermS (xs.take i) a ++ xs.drop i).length = xs.length := by
 rw [List.length_append, mkTermS_length, List.length_take, List.length_drop]; omega
theorem heldTypeS_step (xs : List S32) (hn : xs.length ≤ 1048576) (hx : ∀ y ∈ xs, y.f1.length ≤ 1048576 ∧ (∀ a : Int, 0 ≤ a → a + cnTypeS y.f2 ≤ 4611686018427387000 → Ev (fun k => laws_heldTypeS.f k (mkTypeS y.f2 a) a) (a + cnTypeS y.f2))) (a : Int) (h0 : 0 ≤ a) (hb : a + cnTypeS xs ≤ 4611686018427387000) : Ev (fun k => laws_heldTypeS.f k (mkTypeS xs a) a) (a + cnTypeS xs) := by
 suffices h : ∀ m i, i + m = xs.length → Ev (fun k => laws_heldTypeS.l0 k (mkTypeS xs a) (a + cnTypeS (xs.take i)) (i : Int)) (a + cnTypeS xs) by
  have := h xs.length 0 (by omega)
  refine Ev.up ?_
  simp only [laws_heldTypeS.f]
  simpa [cnTypeS] using this
 intro m
 induction m with
 | zero =>
  intro i hi
  refine Ev.up ?_
  simp only [laws_heldTypeS.l0, mkTypeS_length]
  refine Ev.neg (by omega) (Ev.const ?_)
  rw [List.take_of_length_le (by omega)]
 | succ m ih =>
  intro i hi
  have hlt : i < xs.length := by omega
  have e1 := cnTypeS_take xs i hlt
  have e2 := cnTypeS_take_le xs (i + 1)
  have hg : rd_T32 (mkTypeS xs a) (i : Int) = mkType (xs.getD i z32) (a + cnTypeS (xs.take i)) := mkTypeS_getD xs i a hlt
  have hh := hx _ (mem_getD xs z32 i hlt)
  have ih2 := ih (i + 1) (by omega)
  rw [e1] at ih2
  generalize xs.getD i z32 = y at hg hh e1 ih2
  have e3 := cnType_eq y
  generalize hbb : a + (cnTypeS (xs.take i) : Int) = b at hg
  have hbe : b + cnType y ≤ a + cnTypeS xs ∧ 0 ≤ b := ⟨by omega, by omega⟩
  refine Ev.up ?_
  simp only [laws_heldTypeS.l0, mkTypeS_length, hg, mkType_eq]
  refine Ev.pos (by omega) (Ev.pos (by omega) ?_)
  have v1 : wrap64 (b + 1) = b + 1 := (w64 (by omega) (by omega)).trans (by omega)
  simp only [v1]
  refine Ev.pos (by first | exact trivial | rfl) ?_
  refine Ev.bind (heldStringS_ev y.f1.length (Nat.le_trans hh.1 (by decide)) (b + 1) (by omega) (by omega)) (Ev.neg (by omega) ?_)
  refine Ev.bind (hh.2 ((b + 1) + (y.f1.length : Nat)) (by omega) (by omega)) (Ev.neg (by omega) ?_)
  rw [w1' hlt hn]
  rw [show b + 1 + (y.f1.length : Nat) + (cnTypeS y.f2 : Nat) = a + ((cnTypeS (xs.take i) + cnType y : Nat) : Int) by omega]
  exact ih2
theorem heldType_in : ∀ x : S32, SmType x → ∀ a : Int, 0 ≤ a → a + cnTypeS x.f2 ≤ 4611686018427387000 → Ev (fun k => laws_heldTypeS.f k (mkTypeS x.f2 a) a) (a + cnTypeS x.f2) := by
 refine indTypeI fun x ih hx => ?_
 exact heldTypeS_step x.f2 hx.p2.1 (fun y hy => ⟨(hx.p2.2 y hy).p1.1, ih y hy (hx.p2.2 y hy)⟩)
theorem heldTermS_step (xs : List S35) (hn : xs.length ≤ 1048576) (hx : ∀ y ∈ xs, y.f3.f1.length ≤ 1048576 ∧ y.f4.length ≤ 1048576 ∧ SmType y.f3 ∧ (∀ a : Int, 0 ≤ a → a + cnTermS y.f5 ≤ 4611686018427387000 → Ev (fun k => laws_heldTermS.f k (mkTermS y.f5 a) a) (a + cnTermS y.f5))) (a : Int) (h0 : 0 ≤ a) (hb : a + cnTermS xs ≤ 4611686018427387000) : Ev (fun k => laws_heldTermS.f k (mkTermS xs a) a) (a + cnTermS xs) := by
 suffices h : ∀ m i, i + m = xs.length → Ev (fun k => laws_heldTermS.l0 k (mkTermS xs a) (a + cnTermS (xs.take i)) (i : Int)) (a + cnTermS xs) by
  have := h xs.length 0 (by omega)
  refine Ev.up ?_
  simp only [laws_heldTermS.f]
  simpa [cnTermS] using this
 intro m
 induction m with
 | zero =>
  intro i hi
  refine Ev.up ?_
  simp only [laws_heldTermS.l0, mkTermS_length]
  refine Ev.neg (by omega) (Ev.const ?_)
  rw [List.take_of_length_le (by omega)]
 | succ m ih =>
  intro i hi
  have hlt : i < xs.length := by omega
  have e1 := cnTermS_take xs i hlt
  have e2 := cnTermS_take_le xs (i + 1)
  have hg : rd_T35 (mkTermS xs a) (i : Int) = mkTerm (xs.getD i z35) (a + cnTermS (xs.take i)) := mkTermS_getD xs i a hlt
  have hh := hx _ (mem_getD xs z35 i hlt)
  have ih2 := ih (i + 1) (by omega)
  rw [e1] at ih2
  generalize xs.getD i z35 = y at hg hh e1 ih2
  have e3 := cnTerm_eq y
  generalize hbb : a + (cnTermS (xs.take i) : Int) = b at hg
  have hbe : b + cnTerm y ≤ a + cnTermS xs ∧ 0 ≤ b := ⟨by omega, by omega⟩
  refine Ev.up ?_
  simp only [laws_heldTermS.l0, mkTermS_length, hg, mkTerm_eq]
  refine Ev.pos (by omega) (Ev.pos (by omega) (Ev.pos (by first | exact trivial | rfl) ?_))
  have v1 : wrap64 (b + 1) = b + 1 := (w64 (by omega) (by omega)).trans (by omega)
  have v2 : wrap64 (b + 1 + 1) = b + 2 := (w64 (by omega) (by omega)).trans (by omega)
  have v3 : wrap64 (b + 2 + 1) = b + 3 := (w64 (by omega) (by omega)).trans (by omega)
  have v4 : wrap64 (b + 3 + 1) = b + 4 := (w64 (by omega) (by omega)).trans (by omega)
  simp only [v1, v2, v3, v4]
  refine Ev.bind (mt_ev (b + 1) (by omega)) (Ev.pos rfl (Ev.pos (by first | exact trivial | rfl) (Ev.pos (by first | exact trivial | rfl) ?_)))
  refine Ev.bind (heldStringS_ev y.f3.f1.length (Nat.le_trans hh.1 (by decide)) (b + 4) (by omega) (by omega)) (Ev.neg (by omega) ?_)
  refine Ev.bind (heldType_in y.f3 hh.2.2.1 (b + 4 + (y.f3.f1.length : Nat)) (by omega) (by omega)) (Ev.neg (by omega) ?_)
  refine Ev.bind (heldStringS_ev y.f4.length (Nat.le_trans hh.2.1 (by decide)) (b + 4 + (y.f3.f1.length : Nat) + (cnTypeS y.f3.f2 : Nat)) (by omega) (by omega)) (Ev.neg (by omega) ?_)
  refine Ev.bind (hh.2.2.2 (b + 4 + (y.f3.f1.length : Nat) + (cnTypeS y.f3.f2 : Nat) + (y.f4.length : Nat)) (by omega) (by omega)) (Ev.neg (by omega) ?_)
  rw [w1' hlt hn]
  rw [show b + 4 + (y.f3.f1.length : Nat) + (cnTypeS y.f3.f2 : Nat) + (y.f4.length : Nat) + (cnTermS y.f5 : Nat) = a + ((cnTermS (xs.take i) + cnTerm y : Nat) : Int) by omega]
  exact ih2
theorem heldTerm_in : ∀ x : S35, SmTerm x → ∀ a : Int, 0 ≤ a → a + cnTermS x.f5 ≤ 4611686018427387000 → Ev (fun k => laws_heldTermS.f k (mkTermS x.f5 a) a) (a + cnTermS x.f5) := by
 refine indTermI fun x ih hx => ?_
 exact heldTermS_step x.f5 hx.p5.1 (fun y hy => ⟨(hx.p5.2 y hy).p3.p1.1, (hx.p5.2 y hy).p4.1, (hx.p5.2 y hy).p3, ih y hy (hx.p5.2 y hy)⟩)
noncomputable def mkTop (x : S35) (a : Int) : S35 := ⟨x.f0, x.f1, x.f2, ⟨x.f3.f0, mtS a x.f3.f1.length, mkTypeS x.f3.f2 (a + (x.f3.f1.length : Nat))⟩, mtS (a + (x.f3.f1.length : Nat) + (cnTypeS x.f3.f2 : Nat)) x.f4.length, mkTermS x.f5 (a + (x.f3.f1.length : Nat) + (cnTypeS x.f3.f2 : Nat) + (x.f4.length : Nat))⟩
def cnTop (x : S35) : Nat := x.f3.f1.length + cnTypeS x.f3.f2 + x.f4.length + cnTermS x.f5
theorem heldTerm_top (x : S35) (hx : SmTerm x) (a : Int) (h0 : 0 ≤ a) (hb : a + cnTop x ≤ 4611686018427387000) : Ev (fun k => laws_heldTerm.f k (mkTop x a).f0 (mkTop x a).f1 (mkTop x a).f2 (mkTop x a).f3.f0 (mkTop x a).f3.f1 (mkTop x a).f3.f2 (mkTop x a).f4 (mkTop x a).f5 a) (a + cnTop x) := by
 have e : (cnTop x : Int) = x.f3.f1.length + cnTypeS x.f3.f2 + x.f4.length + cnTermS x.f5 := by unfold cnTop; omega
 simp only [laws_heldTerm.f, laws_heldType.f, mkTop]
 refine Ev.bind (a := a + (x.f3.f1.length : Nat) + (cnTypeS x.f3.f2 : Nat)) ?_ (Ev.neg (by omega) ?_)
 ·refine Ev.bind (heldStringS_ev x.f3.f1.length (Nat.le_trans hx.p3.p1.1 (by decide)) a h0 (by omega)) (Ev.neg (by omega) ?_)
  refine Ev.bind (heldType_in x.f3 hx.p3 (a + (x.f3.f1.length : Nat)) (by omega) (by omega)) (Ev.neg (by omega) (Ev.const rfl))
 ·refine Ev.bind (heldStringS_ev x.f4.length (Nat.le_trans hx.p4.1 (by decide)) _ (by omega) (by omega)) (Ev.neg (by omega) ?_)
  refine Ev.bind (heldTerm_in x hx _ (by omega) (by omega)) (Ev.neg (by omega) (Ev.const ?_))
  omega

end Go.Proofs.YtpckkjeapfdilaaDoor.Px
end
section
namespace Go.Proofs.YtpckkjeapfdilaaDoor.Px
open Go.RowKit Go.Proofs.YtpckkjeapfdilaaDoorW.PrintWords Go.Proofs.YtpckkjeapfdilaaDoorW.PrintLast Go.Proofs.YtpckkjeapfdilaaDoorW.PrintMore Go.Proofs.YtpckkjeapfdilaaDoor.Pl Go.Proofs.YtpckkjeapfdilaaDoor.Ext
set_option linter.unusedVariables false
set_option linter.unusedSimpArgs false
def MkTS (xs : List S32) : Prop := ∀ (a : Int) (v : Value) (cs : List HT) (w0 w : World), 0 ≤ a → a + cnTypeS xs ≤ 4611686018427387000 → Below w0.heap.size w0 w → TyES xs cs → Apt w w0.heap.size [.row 32 3 xs.length v cs] →
  Calls Tryd.prog 50 #[v, .int .i64 a] w fun e w' => e = .returned (.int .i64 (a + cnTypeS xs)) ∧ ∃ cs', TyES (mkTypeS xs a) cs' ∧ Apt w' w0.heap.size [.row 32 3 xs.length v cs'] ∧ blS cs' = blS cs ∧ Below w0.heap.size w0 w' ∧ Kept w w' (fun k => k ∈ blS [HT.row 32 3 xs.length v cs])
set_option maxHeartbeats 8000000 in
set_option maxRecDepth 100000 in
theorem MkTS_step (xs : List S32) (hn : xs.length ≤ 1048576) (hx : ∀ y ∈ xs, y.f1.length ≤ 1048576 ∧ MkTS y.f2) : MkTS xs := by
 intro a v cs0 w0 w h0 hb hB hE hA
 have HA := k_ (And.intro h0 (And.intro hb hn)); have HB := k_ hB; have HX := k_ hx; have HE0 := k_ hE; have HQ0 := k_ hA; have HK := k_ (Kept.refl w (fun k => k ∈ blS [HT.row 32 3 xs.length v cs0]))
 clear h0 hb hn hB hx hE hA
 go_enter Tryd.func50, Tryd.ntmps50
 obtain ⟨Av, cv, ev⟩ := row_slice HQ0.out
 subst ev
 go_wp2
 go_loopg [1, 5] xs.length (fun kq v1 v5 w' => ∃ (b : Int) (i : Nat) (cs : List HT), v1 = .int .i64 b ∧ v5 = .int .i64 (i : Int) ∧ Aside0 (i + kq = xs.length ∧ b = a + cnTypeS (xs.take i)) ∧ Aside0 (TyES (mkTypeS (xs.take i) a ++ xs.drop i) cs) ∧ Aside0 (Apt w' w0.heap.size [.row 32 3 xs.length (.slice Av xs.length cv) cs]) ∧ Aside0 (blS cs = blS cs0) ∧ Aside0 (Below w0.heap.size w0 w') ∧ Aside0 (Kept w w' (fun k => k ∈ blS [HT.row 32 3 xs.length (.slice Av xs.length cv) cs0])))
 case atStart => exact ⟨a, 0, cs0, rfl, rfl, ⟨by omega, by simp [cnTypeS]⟩, ⟨by simpa [mkTypeS] using HE0.out⟩, HQ0, ⟨rfl⟩, HB, HK⟩
 case round =>
  clear HB HK
  obtain ⟨b, i, cs, rfl, rfl, HI, HE, HQ, HL, HB, HK⟩ := hrel
  by_cases d1 : i < xs.length
  ·have HD := k_ d1
   have d2 : (i : Int) < (xs.length : Int) := by omega
   have d3 : decide ((i : Int) < (xs.length : Int)) = true := decide_eq_true d2
   have d4 := eq_true d2
   have d5 : (0 ≤ (i : Int)) = True := eq_true (by omega)
   have hwi : wrap64 ((i : Int) + 1) = ((i + 1 : Nat) : Int) := by have h1 := HA.out.2.2; have h2 := HD.out; unfold wrap64; omega
   obtain ⟨ca, cc, cb, hcs, hca, hTa, hTc, hTb⟩ := TyES_split _ cs i HE.out (by rw [mkTypeS_len]; exact HD.out)
   rw [mkTypeS_at xs i HD.out a] at hTc
   obtain ⟨g, cap, hv, hg⟩ := row_at0 HQ.out hcs (by rw [TyE_len hTc]; decide) (by omega)
   injection hv with hv1 _ hv3
   subst hv1
   subst hv3
   obtain ⟨y, hy⟩ : ∃ y, y = xs.getD i z32 := ⟨_, rfl⟩
   rw [← hy] at hTc
   have HY := k_ (HX.out y (by rw [hy]; exact mem_getD xs z32 i HD.out))
   have HYE := k_ hy
   have HN := k_ (show b + cnType y ≤ a + cnTypeS xs ∧ b = a + cnTypeS (xs.take i) ∧ 0 ≤ b ∧ a + cnTypeS xs ≤ 4611686018427387000 by have e1 := cnTypeS_take xs i HD.out; have e2 := cnTypeS_take_le xs (i + 1); rw [← hy] at e1; have := HI.out; have := HA.out; exact ⟨by omega, by omega, by omega, by omega⟩)
   have e3 := k_ (cnType_eq y)
   clear hy
   obtain ⟨P1, q1, P2, q2, us, rfl, hus⟩ := TyE_open hTc (row_get HQ.out hcs)
   have hw1 : wrap64 (b + 1) = b + 1 := by have := HN.out; have := e3.out; unfold wrap64; omega
   have HTA := k_ hTa; have HTB := k_ hTb; have HCA := k_ hca; have HUS := k_ hus; have HCS := k_ hcs; have GB := k_ hg
   clear hTa hTb hTc hca hus hcs hg d1
   have q0_ : wr.cell? ⟨g, i * 3, none⟩ = some (.int .i64 y.f0) := row_cell0 HQ.out HCS.out HCA.out 0 rfl
   have f0_ : wr.frozen? ⟨g, i * 3, none⟩ = false := row_frozen0 HQ.out _
   have mk1_ := True.intro
   go_wp2_with (first | ((with_reducible refine gate_store (t := 3) (p := 16) rfl ?_); refine store_event (t := 3) (p := 16) (v := ?vo_21) (w1 := (wr.setCell ⟨g, i * 3, none⟩ (.int .i64 b))) ?hg ?ho ?hn ?hr ?_; (case ho => rfl); (case hg => rfl); (case hn => rfl); (case hr => first | (go_simp; done) | (go_simp; rfl)); intro w20 hw; have n0 := row_lf (old := .int .i64 y.f0) (u := .int .i64 b) (cs' := ca ++ [.lf (.int .i64 b), strR (.slice P1 y.f1.length q1) y.f1, .row 32 3 y.f2.length (.slice P2 y.f2.length q2) us] ++ cb) HQ.out (p := ca ++ []) (s := [strR (.slice P1 y.f1.length q1) y.f1, .row 32 3 y.f2.length (.slice P2 y.f2.length q2) us] ++ cb) (by rw [HCS.out]; simp) (by simp) rfl (o := i * 3) (by simp [HCA.out]); have n1 := k_ (show Apt w20 w0.heap.size [.row 32 3 xs.length (.slice (some ⟨g, 0, none⟩) xs.length cv) (ca ++ [.lf (.int .i64 b), strR (.slice P1 y.f1.length q1) y.f1, .row 32 3 y.f2.length (.slice P2 y.f2.length q2) us] ++ cb)] by rw [hw]; exact n0.1); have n2 := k_ (show blS (ca ++ [.lf (.int .i64 b), strR (.slice P1 y.f1.length q1) y.f1, .row 32 3 y.f2.length (.slice P2 y.f2.length q2) us] ++ cb) = blS cs0 from n0.2.trans HL.out); have n3 := k_ (show Below w0.heap.size w0 w20 by rw [hw]; exact below_set HB.out GB.out); have n4 := k_ (show Kept w w20 (fun k => k ∈ blS [HT.row 32 3 xs.length (.slice (some ⟨g, 0, none⟩) xs.length cv) cs0]) by rw [hw]; exact Kept.setCell (p := ⟨g, i * 3, none⟩) HK.out (Or.inl (row_own rfl)) _); clear HQ HL HB HK HCS; have HQ := n1; have HL := n2; have HB := n3; have HK := n4; clear n1 n2 n3 n4; clear n0 hw; (try clear q0_ f0_); have q1_ : w20.cell? ⟨g, i * 3 + 1, none⟩ = some (.slice P1 y.f1.length q1) := row_cell0 HQ.out rfl HCA.out 1 rfl; have f1_ : w20.frozen? ⟨g, i * 3 + 1, none⟩ = false := row_frozen0 HQ.out _) | (go_at_call 36; clear mk1_; have r0 := row_get (q := [strR (.slice P1 y.f1.length q1) y.f1]) HQ.out (show _ = (ca ++ [.lf (.int .i64 b)]) ++ [strR (.slice P1 y.f1.length q1) y.f1] ++ ([.row 32 3 y.f2.length (.slice P2 y.f2.length q2) us] ++ cb) by simp); refine (markStringS_own y.f1 (Nat.le_trans HY.out.1 (by decide)) (b + 1) (by have := HN.out; have := e3.out; omega) (by have := HN.out; have := e3.out; omega) (.slice P1 y.f1.length q1) _ w0 _ HB.out (strR_R r0)).mono ?_; rintro e w21 ⟨rfl, hr, hb, hk⟩; have n0 := row_sub (q := [strR (.slice P1 y.f1.length q1) y.f1]) (q' := [strR (.slice P1 y.f1.length q1) (mtS (b + 1) y.f1.length)]) (cs' := ca ++ [.lf (.int .i64 b), strR (.slice P1 y.f1.length q1) (mtS (b + 1) y.f1.length), .row 32 3 y.f2.length (.slice P2 y.f2.length q2) us] ++ cb) HQ.out (p := ca ++ [.lf (.int .i64 b)]) (s := [.row 32 3 y.f2.length (.slice P2 y.f2.length q2) us] ++ cb) (by simp) (by simp) rfl (strR_ap _ _) (Apt_str hr) (Kept.mono hk (fun k h_ => strR_own h_)); have n4 := k_ (HK.out.then_ hk (fun k h_ => Or.inl (sub_mem (e := 32) (sz := 3) (n := xs.length) (v := (.slice (some ⟨g, 0, none⟩) xs.length cv)) (q := [strR (.slice P1 y.f1.length q1) y.f1]) (p := ca ++ [.lf (.int .i64 b)]) (s := [.row 32 3 y.f2.length (.slice P2 y.f2.length q2) us] ++ cb) (by simp) HL.out k (strR_own h_)))); have n1 := k_ n0.1; have n2 := k_ (show blS (ca ++ [.lf (.int .i64 b), strR (.slice P1 y.f1.length q1) (mtS (b + 1) y.f1.length), .row 32 3 y.f2.length (.slice P2 y.f2.length q2) us] ++ cb) = blS cs0 from n0.2.trans HL.out); have n3 := k_ hb; clear HQ HL HB HK; have HQ := n1; have HL := n2; have HB := n3; have HK := n4; clear n1 n2 n3 n4; clear n0 r0 hr hb hk; (try clear q1_ f1_); have q2_ : w21.cell? ⟨g, i * 3 + 2, none⟩ = some (.slice P2 y.f2.length q2) := row_cell0 HQ.out rfl HCA.out 2 rfl; have f2_ : w21.frozen? ⟨g, i * 3 + 2, none⟩ = false := row_frozen0 HQ.out _) | (go_at_call 50; have r0 := row_get (q := [.row 32 3 y.f2.length (.slice P2 y.f2.length q2) us]) HQ.out (show _ = (ca ++ [.lf (.int .i64 b), strR (.slice P1 y.f1.length q1) (mtS (b + 1) y.f1.length)]) ++ [.row 32 3 y.f2.length (.slice P2 y.f2.length q2) us] ++ ([] ++ cb) by simp); refine (HY.out.2 (b + 1 + (y.f1.length : Nat)) (.slice P2 y.f2.length q2) us w0 _ (by have := HN.out; have := e3.out; omega) (by have := HN.out; have := e3.out; omega) HB.out HUS.out r0).mono ?_; rintro e w22 ⟨rfl, us2, hE2, hr, hl2, hb, hk⟩; have n0 := row_sub (q := [.row 32 3 y.f2.length (.slice P2 y.f2.length q2) us]) (q' := [.row 32 3 y.f2.length (.slice P2 y.f2.length q2) us2]) (cs' := ca ++ [.lf (.int .i64 b), strR (.slice P1 y.f1.length q1) (mtS (b + 1) y.f1.length), .row 32 3 y.f2.length (.slice P2 y.f2.length q2) us2] ++ cb) HQ.out (p := ca ++ [.lf (.int .i64 b), strR (.slice P1 y.f1.length q1) (mtS (b + 1) y.f1.length)]) (s := [] ++ cb) (by simp) (by simp) rfl (by rw [rowc, rowc, hl2]) hr hk; have n4 := k_ (HK.out.then_ hk (fun k h_ => Or.inl (sub_mem (e := 32) (sz := 3) (n := xs.length) (v := (.slice (some ⟨g, 0, none⟩) xs.length cv)) (q := [.row 32 3 y.f2.length (.slice P2 y.f2.length q2) us]) (p := ca ++ [.lf (.int .i64 b), strR (.slice P1 y.f1.length q1) (mtS (b + 1) y.f1.length)]) (s := [] ++ cb) (by simp) HL.out k h_))); have n1 := k_ n0.1; have n2 := k_ (show blS (ca ++ [.lf (.int .i64 b), strR (.slice P1 y.f1.length q1) (mtS (b + 1) y.f1.length), .row 32 3 y.f2.length (.slice P2 y.f2.length q2) us2] ++ cb) = blS cs0 from n0.2.trans HL.out); have n3 := k_ hb; have HUS2 := k_ hE2; clear HQ HL HB HK; have HQ := n1; have HL := n2; have HB := n3; have HK := n4; clear n1 n2 n3 n4; clear n0 r0 hr hb hk hl2 hE2; (try clear q2_ f2_)))
   go_roundg (gk - 1)
   case measure => have := HI.out; have := HD.out; omega
   case rel => exact ⟨_, i + 1, _, rfl, (by first | rfl | rw [hwi] | simp [hwi]), ⟨by have := HI.out; have := HD.out; omega, by have e1 := cnTypeS_take xs i HD.out; rw [← HYE.out] at e1; have := HI.out; have := e3.out; omega⟩, ⟨(by rw [← mkTypeS_step xs i HD.out a, ← HYE.out, ← HI.out.2]; exact TyES_put (by rw [mkTypeS_len]; exact HD.out) HTA.out ((TyE_eq _ _).2 ⟨.slice P1 y.f1.length q1, .slice P2 y.f2.length q2, us2, by rw [mkType_eq]; simp only [mkTypeS_length], by rw [mkType_eq]; exact HUS2.out⟩) HTB.out)⟩, HQ, HL, HB, HK⟩
  ·have d3 : decide ((i : Int) < (xs.length : Int)) = false := decide_eq_false (by omega)
   have d4 : ((i : Int) < (xs.length : Int)) = False := eq_false (by omega)
   have hz : i = xs.length := by have := HI.out; omega
   subst hz
   rw [List.take_length, List.drop_length, List.append_nil] at HE
   rw [List.take_length] at HI
   clear d1
   go_wp2
   go_ret
   exact ⟨by rw [← HI.out.2]; rfl, cs, HE.out, HQ.out, HL.out, HB.out, HK.out⟩
theorem MkTS_in : ∀ x : S32, SmType x → MkTS x.f2 := by
 refine indTypeI fun x ih hx => ?_
 exact MkTS_step x.f2 hx.p2.1 (fun y hy => ⟨(hx.p2.2 y hy).p1.1, ih y hy (hx.p2.2 y hy)⟩)
def MkES (xs : List S35) : Prop := ∀ (a : Int) (v : Value) (cs : List HT) (w0 w : World), 0 ≤ a → a + cnTermS xs ≤ 4611686018427387000 → Below w0.heap.size w0 w → TeES xs cs → Apt w w0.heap.size [.row 35 8 xs.length v cs] →
  Calls Tryd.prog 37 #[v, .int .i64 a] w fun e w' => e = .returned (.int .i64 (a + cnTermS xs)) ∧ ∃ cs', TeES (mkTermS xs a) cs' ∧ Apt w' w0.heap.size [.row 35 8 xs.length v cs'] ∧ blS cs' = blS cs ∧ Below w0.heap.size w0 w' ∧ Kept w w' (fun k => k ∈ blS [HT.row 35 8 xs.length v cs])
set_option maxHeartbeats 8000000 in
set_option maxRecDepth 100000 in
theorem MkES_step (xs : List S35) (hn : xs.length ≤ 1048576) (hx : ∀ y ∈ xs, y.f3.f1.length ≤ 1048576 ∧ MkTS y.f3.f2 ∧ y.f4.length ≤ 1048576 ∧ MkES y.f5) : MkES xs := by
 intro a v cs0 w0 w h0 hb hB hE hA
 have HA := k_ (And.intro h0 (And.intro hb hn)); have HB := k_ hB; have HX := k_ hx; have HE0 := k_ hE; have HQ0 := k_ hA; have HK := k_ (Kept.refl w (fun k => k ∈ blS [HT.row 35 8 xs.length v cs0]))
 clear h0 hb hn hB hx hE hA
 go_enter Tryd.func37, Tryd.ntmps37
 obtain ⟨Av, cv, ev⟩ := row_slice HQ0.out
 subst ev
 go_wp2
 go_loopg [1, 5] xs.length (fun kq v1 v5 w' => ∃ (b : Int) (i : Nat) (cs : List HT), v1 = .int .i64 b ∧ v5 = .int .i64 (i : Int) ∧ Aside0 (i + kq = xs.length ∧ b = a + cnTermS (xs.take i)) ∧ Aside0 (TeES (mkTermS (xs.take i) a ++ xs.drop i) cs) ∧ Aside0 (Apt w' w0.heap.size [.row 35 8 xs.length (.slice Av xs.length cv) cs]) ∧ Aside0 (blS cs = blS cs0) ∧ Aside0 (Below w0.heap.size w0 w') ∧ Aside0 (Kept w w' (fun k => k ∈ blS [HT.row 35 8 xs.length (.slice Av xs.length cv) cs0])))
 case atStart => exact ⟨a, 0, cs0, rfl, rfl, ⟨by omega, by simp [cnTermS]⟩, ⟨by simpa [mkTermS] using HE0.out⟩, HQ0, ⟨rfl⟩, HB, HK⟩
 case round =>
  clear HB HK
  obtain ⟨b, i, cs, rfl, rfl, HI, HE, HQ, HL, HB, HK⟩ := hrel
  by_cases d1 : i < xs.length
  ·have HD := k_ d1
   have d2 : (i : Int) < (xs.length : Int) := by omega
   have d3 : decide ((i : Int) < (xs.length : Int)) = true := decide_eq_true d2
   have d4 := eq_true d2
   have d5 : (0 ≤ (i : Int)) = True := eq_true (by omega)
   have hwi : wrap64 ((i : Int) + 1) = ((i + 1 : Nat) : Int) := by have h1 := HA.out.2.2; have h2 := HD.out; unfold wrap64; omega
   obtain ⟨ca, cc, cb, hcs, hca, hTa, hTc, hTb⟩ := TeES_split _ cs i HE.out (by rw [mkTermS_len]; exact HD.out)
   rw [mkTermS_at xs i HD.out a] at hTc
   obtain ⟨g, cap, hv, hg⟩ := row_at0 HQ.out hcs (by rw [TeE_len hTc]; decide) (by omega)
   injection hv with hv1 _ hv3
   subst hv1
   subst hv3
   obtain ⟨y, hy⟩ : ∃ y, y = xs.getD i z35 := ⟨_, rfl⟩
   rw [← hy] at hTc
   have HY := k_ (HX.out y (by rw [hy]; exact mem_getD xs z35 i HD.out))
   have HYE := k_ hy
   have HN := k_ (show b + cnTerm y ≤ a + cnTermS xs ∧ b = a + cnTermS (xs.take i) ∧ 0 ≤ b ∧ a + cnTermS xs ≤ 4611686018427387000 by have e1 := cnTermS_take xs i HD.out; have e2 := cnTermS_take_le xs (i + 1); rw [← hy] at e1; have := HI.out; have := HA.out; exact ⟨by omega, by omega, by omega, by omega⟩)
   have e3 := k_ (cnTerm_eq y)
   clear hy
   obtain ⟨P1, q1, P2, q2, P3, q3, P4, q4, us, ds, rfl, hus, hds⟩ := TeE_open hTc (row_get HQ.out hcs)
   have hw1 : wrap64 (b + 1) = b + 1 := by have := HN.out; have := e3.out; unfold wrap64; omega
   have hw2 : wrap64 (b + 1 + 1) = b + 2 := by have := HN.out; have := e3.out; unfold wrap64; omega
   have hw3 : wrap64 (b + 2 + 1) = b + 3 := by have := HN.out; have := e3.out; unfold wrap64; omega
   have hw4 : wrap64 (b + 3 + 1) = b + 4 := by have := HN.out; have := e3.out; unfold wrap64; omega
   have HTA := k_ hTa; have HTB := k_ hTb; have HCA := k_ hca; have HUS := k_ hus; have HDS := k_ hds; have HCS := k_ hcs; have GB := k_ hg
   clear hTa hTb hTc hca hus hcs hg d1 hds
   have q0_ : wr.cell? ⟨g, i * 8, none⟩ = some (.int .i64 y.f0) := row_cell0 HQ.out HCS.out HCA.out 0 rfl
   have f0_ : wr.frozen? ⟨g, i * 8, none⟩ = false := row_frozen0 HQ.out _
   have mk4_ := True.intro
   have mk6_ := True.intro
   go_wp2_with (first | ((with_reducible refine gate_store (t := 3) (p := 16) rfl ?_); refine store_event (t := 3) (p := 16) (v := ?vo_21) (w1 := (wr.setCell ⟨g, i * 8, none⟩ (.int .i64 b))) ?hg ?ho ?hn ?hr ?_; (case ho => rfl); (case hg => rfl); (case hn => rfl); (case hr => first | (go_simp; done) | (go_simp; rfl)); intro w20 hw; have n0 := row_lf (old := .int .i64 y.f0) (u := .int .i64 b) (cs' := ca ++ [.lf (.int .i64 b), .lf (.string y.f1), .lf (.int .i64 y.f2), .lf (.int .i64 y.f3.f0), strR (.slice P1 y.f3.f1.length q1) y.f3.f1, .row 32 3 y.f3.f2.length (.slice P2 y.f3.f2.length q2) us, strR (.slice P3 y.f4.length q3) y.f4, .row 35 8 y.f5.length (.slice P4 y.f5.length q4) ds] ++ cb) HQ.out (p := ca ++ []) (s := [.lf (.string y.f1), .lf (.int .i64 y.f2), .lf (.int .i64 y.f3.f0), strR (.slice P1 y.f3.f1.length q1) y.f3.f1, .row 32 3 y.f3.f2.length (.slice P2 y.f3.f2.length q2) us, strR (.slice P3 y.f4.length q3) y.f4, .row 35 8 y.f5.length (.slice P4 y.f5.length q4) ds] ++ cb) (by rw [HCS.out]; simp) (by simp) rfl (o := i * 8) (by simp [HCA.out]); have n1 := k_ (show Apt w20 w0.heap.size [.row 35 8 xs.length (.slice (some ⟨g, 0, none⟩) xs.length cv) (ca ++ [.lf (.int .i64 b), .lf (.string y.f1), .lf (.int .i64 y.f2), .lf (.int .i64 y.f3.f0), strR (.slice P1 y.f3.f1.length q1) y.f3.f1, .row 32 3 y.f3.f2.length (.slice P2 y.f3.f2.length q2) us, strR (.slice P3 y.f4.length q3) y.f4, .row 35 8 y.f5.length (.slice P4 y.f5.length q4) ds] ++ cb)] by rw [hw]; exact n0.1); have n2 := k_ (show blS (ca ++ [.lf (.int .i64 b), .lf (.string y.f1), .lf (.int .i64 y.f2), .lf (.int .i64 y.f3.f0), strR (.slice P1 y.f3.f1.length q1) y.f3.f1, .row 32 3 y.f3.f2.length (.slice P2 y.f3.f2.length q2) us, strR (.slice P3 y.f4.length q3) y.f4, .row 35 8 y.f5.length (.slice P4 y.f5.length q4) ds] ++ cb) = blS cs0 from n0.2.trans HL.out); have n3 := k_ (show Below w0.heap.size w0 w20 by rw [hw]; exact below_set HB.out GB.out); have n4 := k_ (show Kept w w20 (fun k => k ∈ blS [HT.row 35 8 xs.length (.slice (some ⟨g, 0, none⟩) xs.length cv) cs0]) by rw [hw]; exact Kept.setCell (p := ⟨g, i * 8, none⟩) HK.out (Or.inl (row_own rfl)) _); clear HQ HL HB HK HCS; have HQ := n1; have HL := n2; have HB := n3; have HK := n4; clear n1 n2 n3 n4; clear n0 hw; (try clear q0_ f0_)) | (go_at_call 51; refine (markText_own (b + 1) (by have := HN.out; have := e3.out; omega) _).mono ?_; rintro e w21 ⟨rfl, hb⟩; have n1 := k_ (Apt_below HQ.out hb); have n2 := HL; have n3 := k_ (below_step HB.out hb); have n4 := k_ (Kept.below HK.out hb); clear HQ HL HB HK; have HQ := n1; have HL := n2; have HB := n3; have HK := n4; clear n1 n2 n3 n4; clear hb; have q1_ : w21.cell? ⟨g, i * 8 + 1, none⟩ = some (.string y.f1) := row_cell0 HQ.out rfl HCA.out 1 rfl; have f1_ : w21.frozen? ⟨g, i * 8 + 1, none⟩ = false := row_frozen0 HQ.out _) | ((with_reducible refine gate_store (t := 9) (p := 24) rfl ?_); refine store_event (t := 9) (p := 24) (v := ?vo_23) (w1 := (w21.setCell ⟨g, i * 8 + 1, none⟩ (.string (mt (b + 1))))) ?hg ?ho ?hn ?hr ?_; (case ho => rfl); (case hg => rfl); (case hn => rfl); (case hr => first | (go_simp; done) | (go_simp; rfl)); intro w22 hw; have n0 := row_lf (old := .string y.f1) (u := .string (mt (b + 1))) (cs' := ca ++ [.lf (.int .i64 b), .lf (.string (mt (b + 1))), .lf (.int .i64 y.f2), .lf (.int .i64 y.f3.f0), strR (.slice P1 y.f3.f1.length q1) y.f3.f1, .row 32 3 y.f3.f2.length (.slice P2 y.f3.f2.length q2) us, strR (.slice P3 y.f4.length q3) y.f4, .row 35 8 y.f5.length (.slice P4 y.f5.length q4) ds] ++ cb) HQ.out (p := ca ++ [.lf (.int .i64 b)]) (s := [.lf (.int .i64 y.f2), .lf (.int .i64 y.f3.f0), strR (.slice P1 y.f3.f1.length q1) y.f3.f1, .row 32 3 y.f3.f2.length (.slice P2 y.f3.f2.length q2) us, strR (.slice P3 y.f4.length q3) y.f4, .row 35 8 y.f5.length (.slice P4 y.f5.length q4) ds] ++ cb) (by simp) (by simp) rfl (o := i * 8 + 1) (by simp [HCA.out]); have n1 := k_ (show Apt w22 w0.heap.size [.row 35 8 xs.length (.slice (some ⟨g, 0, none⟩) xs.length cv) (ca ++ [.lf (.int .i64 b), .lf (.string (mt (b + 1))), .lf (.int .i64 y.f2), .lf (.int .i64 y.f3.f0), strR (.slice P1 y.f3.f1.length q1) y.f3.f1, .row 32 3 y.f3.f2.length (.slice P2 y.f3.f2.length q2) us, strR (.slice P3 y.f4.length q3) y.f4, .row 35 8 y.f5.length (.slice P4 y.f5.length q4) ds] ++ cb)] by rw [hw]; exact n0.1); have n2 := k_ (show blS (ca ++ [.lf (.int .i64 b), .lf (.string (mt (b + 1))), .lf (.int .i64 y.f2), .lf (.int .i64 y.f3.f0), strR (.slice P1 y.f3.f1.length q1) y.f3.f1, .row 32 3 y.f3.f2.length (.slice P2 y.f3.f2.length q2) us, strR (.slice P3 y.f4.length q3) y.f4, .row 35 8 y.f5.length (.slice P4 y.f5.length q4) ds] ++ cb) = blS cs0 from n0.2.trans HL.out); have n3 := k_ (show Below w0.heap.size w0 w22 by rw [hw]; exact below_set HB.out GB.out); have n4 := k_ (show Kept w w22 (fun k => k ∈ blS [HT.row 35 8 xs.length (.slice (some ⟨g, 0, none⟩) xs.length cv) cs0]) by rw [hw]; exact Kept.setCell (p := ⟨g, i * 8 + 1, none⟩) HK.out (Or.inl (row_own rfl)) _); clear HQ HL HB HK; have HQ := n1; have HL := n2; have HB := n3; have HK := n4; clear n1 n2 n3 n4; clear n0 hw; (try clear q1_ f1_); have q2_ : w22.cell? ⟨g, i * 8 + 2, none⟩ = some (.int .i64 y.f2) := row_cell0 HQ.out rfl HCA.out 2 rfl; have f2_ : w22.frozen? ⟨g, i * 8 + 2, none⟩ = false := row_frozen0 HQ.out _) | ((with_reducible refine gate_store (t := 3) (p := 31) rfl ?_); refine store_event (t := 3) (p := 31) (v := ?vo_24) (w1 := (w22.setCell ⟨g, i * 8 + 2, none⟩ (.int .i64 (b + 2)))) ?hg ?ho ?hn ?hr ?_; (case ho => rfl); (case hg => rfl); (case hn => rfl); (case hr => first | (go_simp; done) | (go_simp; rfl)); intro w23 hw; have n0 := row_lf (old := .int .i64 y.f2) (u := .int .i64 (b + 2)) (cs' := ca ++ [.lf (.int .i64 b), .lf (.string (mt (b + 1))), .lf (.int .i64 (b + 2)), .lf (.int .i64 y.f3.f0), strR (.slice P1 y.f3.f1.length q1) y.f3.f1, .row 32 3 y.f3.f2.length (.slice P2 y.f3.f2.length q2) us, strR (.slice P3 y.f4.length q3) y.f4, .row 35 8 y.f5.length (.slice P4 y.f5.length q4) ds] ++ cb) HQ.out (p := ca ++ [.lf (.int .i64 b), .lf (.string (mt (b + 1)))]) (s := [.lf (.int .i64 y.f3.f0), strR (.slice P1 y.f3.f1.length q1) y.f3.f1, .row 32 3 y.f3.f2.length (.slice P2 y.f3.f2.length q2) us, strR (.slice P3 y.f4.length q3) y.f4, .row 35 8 y.f5.length (.slice P4 y.f5.length q4) ds] ++ cb) (by simp) (by simp) rfl (o := i * 8 + 2) (by simp [HCA.out]); have n1 := k_ (show Apt w23 w0.heap.size [.row 35 8 xs.length (.slice (some ⟨g, 0, none⟩) xs.length cv) (ca ++ [.lf (.int .i64 b), .lf (.string (mt (b + 1))), .lf (.int .i64 (b + 2)), .lf (.int .i64 y.f3.f0), strR (.slice P1 y.f3.f1.length q1) y.f3.f1, .row 32 3 y.f3.f2.length (.slice P2 y.f3.f2.length q2) us, strR (.slice P3 y.f4.length q3) y.f4, .row 35 8 y.f5.length (.slice P4 y.f5.length q4) ds] ++ cb)] by rw [hw]; exact n0.1); have n2 := k_ (show blS (ca ++ [.lf (.int .i64 b), .lf (.string (mt (b + 1))), .lf (.int .i64 (b + 2)), .lf (.int .i64 y.f3.f0), strR (.slice P1 y.f3.f1.length q1) y.f3.f1, .row 32 3 y.f3.f2.length (.slice P2 y.f3.f2.length q2) us, strR (.slice P3 y.f4.length q3) y.f4, .row 35 8 y.f5.length (.slice P4 y.f5.length q4) ds] ++ cb) = blS cs0 from n0.2.trans HL.out); have n3 := k_ (show Below w0.heap.size w0 w23 by rw [hw]; exact below_set HB.out GB.out); have n4 := k_ (show Kept w w23 (fun k => k ∈ blS [HT.row 35 8 xs.length (.slice (some ⟨g, 0, none⟩) xs.length cv) cs0]) by rw [hw]; exact Kept.setCell (p := ⟨g, i * 8 + 2, none⟩) HK.out (Or.inl (row_own rfl)) _); clear HQ HL HB HK; have HQ := n1; have HL := n2; have HB := n3; have HK := n4; clear n1 n2 n3 n4; clear n0 hw; (try clear q2_ f2_); have q3_ : w23.cell? ⟨g, i * 8 + 3, none⟩ = some (.int .i64 y.f3.f0) := row_cell0 HQ.out rfl HCA.out 3 rfl; have f3_ : w23.frozen? ⟨g, i * 8 + 3, none⟩ = false := row_frozen0 HQ.out _) | ((with_reducible refine gate_store (t := 3) (p := 39) rfl ?_); refine store_event (t := 3) (p := 39) (v := ?vo_25) (w1 := (w23.setCell ⟨g, i * 8 + 3, none⟩ (.int .i64 (b + 3)))) ?hg ?ho ?hn ?hr ?_; (case ho => rfl); (case hg => rfl); (case hn => rfl); (case hr => first | (go_simp; done) | (go_simp; rfl)); intro w24 hw; have n0 := row_lf (old := .int .i64 y.f3.f0) (u := .int .i64 (b + 3)) (cs' := ca ++ [.lf (.int .i64 b), .lf (.string (mt (b + 1))), .lf (.int .i64 (b + 2)), .lf (.int .i64 (b + 3)), strR (.slice P1 y.f3.f1.length q1) y.f3.f1, .row 32 3 y.f3.f2.length (.slice P2 y.f3.f2.length q2) us, strR (.slice P3 y.f4.length q3) y.f4, .row 35 8 y.f5.length (.slice P4 y.f5.length q4) ds] ++ cb) HQ.out (p := ca ++ [.lf (.int .i64 b), .lf (.string (mt (b + 1))), .lf (.int .i64 (b + 2))]) (s := [strR (.slice P1 y.f3.f1.length q1) y.f3.f1, .row 32 3 y.f3.f2.length (.slice P2 y.f3.f2.length q2) us, strR (.slice P3 y.f4.length q3) y.f4, .row 35 8 y.f5.length (.slice P4 y.f5.length q4) ds] ++ cb) (by simp) (by simp) rfl (o := i * 8 + 3) (by simp [HCA.out]); have n1 := k_ (show Apt w24 w0.heap.size [.row 35 8 xs.length (.slice (some ⟨g, 0, none⟩) xs.length cv) (ca ++ [.lf (.int .i64 b), .lf (.string (mt (b + 1))), .lf (.int .i64 (b + 2)), .lf (.int .i64 (b + 3)), strR (.slice P1 y.f3.f1.length q1) y.f3.f1, .row 32 3 y.f3.f2.length (.slice P2 y.f3.f2.length q2) us, strR (.slice P3 y.f4.length q3) y.f4, .row 35 8 y.f5.length (.slice P4 y.f5.length q4) ds] ++ cb)] by rw [hw]; exact n0.1); have n2 := k_ (show blS (ca ++ [.lf (.int .i64 b), .lf (.string (mt (b + 1))), .lf (.int .i64 (b + 2)), .lf (.int .i64 (b + 3)), strR (.slice P1 y.f3.f1.length q1) y.f3.f1, .row 32 3 y.f3.f2.length (.slice P2 y.f3.f2.length q2) us, strR (.slice P3 y.f4.length q3) y.f4, .row 35 8 y.f5.length (.slice P4 y.f5.length q4) ds] ++ cb) = blS cs0 from n0.2.trans HL.out); have n3 := k_ (show Below w0.heap.size w0 w24 by rw [hw]; exact below_set HB.out GB.out); have n4 := k_ (show Kept w w24 (fun k => k ∈ blS [HT.row 35 8 xs.length (.slice (some ⟨g, 0, none⟩) xs.length cv) cs0]) by rw [hw]; exact Kept.setCell (p := ⟨g, i * 8 + 3, none⟩) HK.out (Or.inl (row_own rfl)) _); clear HQ HL HB HK; have HQ := n1; have HL := n2; have HB := n3; have HK := n4; clear n1 n2 n3 n4; clear n0 hw; (try clear q3_ f3_); have q4_ : w24.cell? ⟨g, i * 8 + 4, none⟩ = some (.slice P1 y.f3.f1.length q1) := row_cell0 HQ.out rfl HCA.out 4 rfl; have f4_ : w24.frozen? ⟨g, i * 8 + 4, none⟩ = false := row_frozen0 HQ.out _) | (go_at_call 36; clear mk4_; have r0 := row_get (q := [strR (.slice P1 y.f3.f1.length q1) y.f3.f1]) HQ.out (show _ = (ca ++ [.lf (.int .i64 b), .lf (.string (mt (b + 1))), .lf (.int .i64 (b + 2)), .lf (.int .i64 (b + 3))]) ++ [strR (.slice P1 y.f3.f1.length q1) y.f3.f1] ++ ([.row 32 3 y.f3.f2.length (.slice P2 y.f3.f2.length q2) us, strR (.slice P3 y.f4.length q3) y.f4, .row 35 8 y.f5.length (.slice P4 y.f5.length q4) ds] ++ cb) by simp); refine (markStringS_own y.f3.f1 (Nat.le_trans HY.out.1 (by decide)) (b + 4) (by have := HN.out; have := e3.out; omega) (by have := HN.out; have := e3.out; omega) (.slice P1 y.f3.f1.length q1) _ w0 _ HB.out (strR_R r0)).mono ?_; rintro e w25 ⟨rfl, hr, hb, hk⟩; have n0 := row_sub (q := [strR (.slice P1 y.f3.f1.length q1) y.f3.f1]) (q' := [strR (.slice P1 y.f3.f1.length q1) (mtS (b + 4) y.f3.f1.length)]) (cs' := ca ++ [.lf (.int .i64 b), .lf (.string (mt (b + 1))), .lf (.int .i64 (b + 2)), .lf (.int .i64 (b + 3)), strR (.slice P1 y.f3.f1.length q1) (mtS (b + 4) y.f3.f1.length), .row 32 3 y.f3.f2.length (.slice P2 y.f3.f2.length q2) us, strR (.slice P3 y.f4.length q3) y.f4, .row 35 8 y.f5.length (.slice P4 y.f5.length q4) ds] ++ cb) HQ.out (p := ca ++ [.lf (.int .i64 b), .lf (.string (mt (b + 1))), .lf (.int .i64 (b + 2)), .lf (.int .i64 (b + 3))]) (s := [.row 32 3 y.f3.f2.length (.slice P2 y.f3.f2.length q2) us, strR (.slice P3 y.f4.length q3) y.f4, .row 35 8 y.f5.length (.slice P4 y.f5.length q4) ds] ++ cb) (by simp) (by simp) rfl (strR_ap _ _) (Apt_str hr) (Kept.mono hk (fun k h_ => strR_own h_)); have n4 := k_ (HK.out.then_ hk (fun k h_ => Or.inl (sub_mem (e := 35) (sz := 8) (n := xs.length) (v := (.slice (some ⟨g, 0, none⟩) xs.length cv)) (q := [strR (.slice P1 y.f3.f1.length q1) y.f3.f1]) (p := ca ++ [.lf (.int .i64 b), .lf (.string (mt (b + 1))), .lf (.int .i64 (b + 2)), .lf (.int .i64 (b + 3))]) (s := [.row 32 3 y.f3.f2.length (.slice P2 y.f3.f2.length q2) us, strR (.slice P3 y.f4.length q3) y.f4, .row 35 8 y.f5.length (.slice P4 y.f5.length q4) ds] ++ cb) (by simp) HL.out k (strR_own h_)))); have n1 := k_ n0.1; have n2 := k_ (show blS (ca ++ [.lf (.int .i64 b), .lf (.string (mt (b + 1))), .lf (.int .i64 (b + 2)), .lf (.int .i64 (b + 3)), strR (.slice P1 y.f3.f1.length q1) (mtS (b + 4) y.f3.f1.length), .row 32 3 y.f3.f2.length (.slice P2 y.f3.f2.length q2) us, strR (.slice P3 y.f4.length q3) y.f4, .row 35 8 y.f5.length (.slice P4 y.f5.length q4) ds] ++ cb) = blS cs0 from n0.2.trans HL.out); have n3 := k_ hb; clear HQ HL HB HK; have HQ := n1; have HL := n2; have HB := n3; have HK := n4; clear n1 n2 n3 n4; clear n0 r0 hr hb hk; (try clear q4_ f4_); have q5_ : w25.cell? ⟨g, i * 8 + 5, none⟩ = some (.slice P2 y.f3.f2.length q2) := row_cell0 HQ.out rfl HCA.out 5 rfl; have f5_ : w25.frozen? ⟨g, i * 8 + 5, none⟩ = false := row_frozen0 HQ.out _) | (go_at_call 50; have r0 := row_get (q := [.row 32 3 y.f3.f2.length (.slice P2 y.f3.f2.length q2) us]) HQ.out (show _ = (ca ++ [.lf (.int .i64 b), .lf (.string (mt (b + 1))), .lf (.int .i64 (b + 2)), .lf (.int .i64 (b + 3)), strR (.slice P1 y.f3.f1.length q1) (mtS (b + 4) y.f3.f1.length)]) ++ [.row 32 3 y.f3.f2.length (.slice P2 y.f3.f2.length q2) us] ++ ([strR (.slice P3 y.f4.length q3) y.f4, .row 35 8 y.f5.length (.slice P4 y.f5.length q4) ds] ++ cb) by simp); refine (HY.out.2.1 (b + 4 + (y.f3.f1.length : Nat)) (.slice P2 y.f3.f2.length q2) us w0 _ (by have := HN.out; have := e3.out; omega) (by have := HN.out; have := e3.out; omega) HB.out HUS.out r0).mono ?_; rintro e w26 ⟨rfl, us2, hE2, hr, hl2, hb, hk⟩; have n0 := row_sub (q := [.row 32 3 y.f3.f2.length (.slice P2 y.f3.f2.length q2) us]) (q' := [.row 32 3 y.f3.f2.length (.slice P2 y.f3.f2.length q2) us2]) (cs' := ca ++ [.lf (.int .i64 b), .lf (.string (mt (b + 1))), .lf (.int .i64 (b + 2)), .lf (.int .i64 (b + 3)), strR (.slice P1 y.f3.f1.length q1) (mtS (b + 4) y.f3.f1.length), .row 32 3 y.f3.f2.length (.slice P2 y.f3.f2.length q2) us2, strR (.slice P3 y.f4.length q3) y.f4, .row 35 8 y.f5.length (.slice P4 y.f5.length q4) ds] ++ cb) HQ.out (p := ca ++ [.lf (.int .i64 b), .lf (.string (mt (b + 1))), .lf (.int .i64 (b + 2)), .lf (.int .i64 (b + 3)), strR (.slice P1 y.f3.f1.length q1) (mtS (b + 4) y.f3.f1.length)]) (s := [strR (.slice P3 y.f4.length q3) y.f4, .row 35 8 y.f5.length (.slice P4 y.f5.length q4) ds] ++ cb) (by simp) (by simp) rfl (by rw [rowc, rowc, hl2]) hr hk; have n4 := k_ (HK.out.then_ hk (fun k h_ => Or.inl (sub_mem (e := 35) (sz := 8) (n := xs.length) (v := (.slice (some ⟨g, 0, none⟩) xs.length cv)) (q := [.row 32 3 y.f3.f2.length (.slice P2 y.f3.f2.length q2) us]) (p := ca ++ [.lf (.int .i64 b), .lf (.string (mt (b + 1))), .lf (.int .i64 (b + 2)), .lf (.int .i64 (b + 3)), strR (.slice P1 y.f3.f1.length q1) (mtS (b + 4) y.f3.f1.length)]) (s := [strR (.slice P3 y.f4.length q3) y.f4, .row 35 8 y.f5.length (.slice P4 y.f5.length q4) ds] ++ cb) (by simp) HL.out k h_))); have n1 := k_ n0.1; have n2 := k_ (show blS (ca ++ [.lf (.int .i64 b), .lf (.string (mt (b + 1))), .lf (.int .i64 (b + 2)), .lf (.int .i64 (b + 3)), strR (.slice P1 y.f3.f1.length q1) (mtS (b + 4) y.f3.f1.length), .row 32 3 y.f3.f2.length (.slice P2 y.f3.f2.length q2) us2, strR (.slice P3 y.f4.length q3) y.f4, .row 35 8 y.f5.length (.slice P4 y.f5.length q4) ds] ++ cb) = blS cs0 from n0.2.trans HL.out); have n3 := k_ hb; have HUS2 := k_ hE2; clear HQ HL HB HK; have HQ := n1; have HL := n2; have HB := n3; have HK := n4; clear n1 n2 n3 n4; clear n0 r0 hr hb hk hl2 hE2; (try clear q5_ f5_); have q6_ : w26.cell? ⟨g, i * 8 + 6, none⟩ = some (.slice P3 y.f4.length q3) := row_cell0 HQ.out rfl HCA.out 6 rfl; have f6_ : w26.frozen? ⟨g, i * 8 + 6, none⟩ = false := row_frozen0 HQ.out _) | (go_at_call 36; clear mk6_; have r0 := row_get (q := [strR (.slice P3 y.f4.length q3) y.f4]) HQ.out (show _ = (ca ++ [.lf (.int .i64 b), .lf (.string (mt (b + 1))), .lf (.int .i64 (b + 2)), .lf (.int .i64 (b + 3)), strR (.slice P1 y.f3.f1.length q1) (mtS (b + 4) y.f3.f1.length), .row 32 3 y.f3.f2.length (.slice P2 y.f3.f2.length q2) us2]) ++ [strR (.slice P3 y.f4.length q3) y.f4] ++ ([.row 35 8 y.f5.length (.slice P4 y.f5.length q4) ds] ++ cb) by simp); refine (markStringS_own y.f4 (Nat.le_trans HY.out.2.2.1 (by decide)) (b + 4 + (y.f3.f1.length : Nat) + (cnTypeS y.f3.f2 : Nat)) (by have := HN.out; have := e3.out; omega) (by have := HN.out; have := e3.out; omega) (.slice P3 y.f4.length q3) _ w0 _ HB.out (strR_R r0)).mono ?_; rintro e w27 ⟨rfl, hr, hb, hk⟩; have n0 := row_sub (q := [strR (.slice P3 y.f4.length q3) y.f4]) (q' := [strR (.slice P3 y.f4.length q3) (mtS (b + 4 + (y.f3.f1.length : Nat) + (cnTypeS y.f3.f2 : Nat)) y.f4.length)]) (cs' := ca ++ [.lf (.int .i64 b), .lf (.string (mt (b + 1))), .lf (.int .i64 (b + 2)), .lf (.int .i64 (b + 3)), strR (.slice P1 y.f3.f1.length q1) (mtS (b + 4) y.f3.f1.length), .row 32 3 y.f3.f2.length (.slice P2 y.f3.f2.length q2) us2, strR (.slice P3 y.f4.length q3) (mtS (b + 4 + (y.f3.f1.length : Nat) + (cnTypeS y.f3.f2 : Nat)) y.f4.length), .row 35 8 y.f5.length (.slice P4 y.f5.length q4) ds] ++ cb) HQ.out (p := ca ++ [.lf (.int .i64 b), .lf (.string (mt (b + 1))), .lf (.int .i64 (b + 2)), .lf (.int .i64 (b + 3)), strR (.slice P1 y.f3.f1.length q1) (mtS (b + 4) y.f3.f1.length), .row 32 3 y.f3.f2.length (.slice P2 y.f3.f2.length q2) us2]) (s := [.row 35 8 y.f5.length (.slice P4 y.f5.length q4) ds] ++ cb) (by simp) (by simp) rfl (strR_ap _ _) (Apt_str hr) (Kept.mono hk (fun k h_ => strR_own h_)); have n4 := k_ (HK.out.then_ hk (fun k h_ => Or.inl (sub_mem (e := 35) (sz := 8) (n := xs.length) (v := (.slice (some ⟨g, 0, none⟩) xs.length cv)) (q := [strR (.slice P3 y.f4.length q3) y.f4]) (p := ca ++ [.lf (.int .i64 b), .lf (.string (mt (b + 1))), .lf (.int .i64 (b + 2)), .lf (.int .i64 (b + 3)), strR (.slice P1 y.f3.f1.length q1) (mtS (b + 4) y.f3.f1.length), .row 32 3 y.f3.f2.length (.slice P2 y.f3.f2.length q2) us2]) (s := [.row 35 8 y.f5.length (.slice P4 y.f5.length q4) ds] ++ cb) (by simp) HL.out k (strR_own h_)))); have n1 := k_ n0.1; have n2 := k_ (show blS (ca ++ [.lf (.int .i64 b), .lf (.string (mt (b + 1))), .lf (.int .i64 (b + 2)), .lf (.int .i64 (b + 3)), strR (.slice P1 y.f3.f1.length q1) (mtS (b + 4) y.f3.f1.length), .row 32 3 y.f3.f2.length (.slice P2 y.f3.f2.length q2) us2, strR (.slice P3 y.f4.length q3) (mtS (b + 4 + (y.f3.f1.length : Nat) + (cnTypeS y.f3.f2 : Nat)) y.f4.length), .row 35 8 y.f5.length (.slice P4 y.f5.length q4) ds] ++ cb) = blS cs0 from n0.2.trans HL.out); have n3 := k_ hb; clear HQ HL HB HK; have HQ := n1; have HL := n2; have HB := n3; have HK := n4; clear n1 n2 n3 n4; clear n0 r0 hr hb hk; (try clear q6_ f6_); have q7_ : w27.cell? ⟨g, i * 8 + 7, none⟩ = some (.slice P4 y.f5.length q4) := row_cell0 HQ.out rfl HCA.out 7 rfl; have f7_ : w27.frozen? ⟨g, i * 8 + 7, none⟩ = false := row_frozen0 HQ.out _) | (go_at_call 37; have r0 := row_get (q := [.row 35 8 y.f5.length (.slice P4 y.f5.length q4) ds]) HQ.out (show _ = (ca ++ [.lf (.int .i64 b), .lf (.string (mt (b + 1))), .lf (.int .i64 (b + 2)), .lf (.int .i64 (b + 3)), strR (.slice P1 y.f3.f1.length q1) (mtS (b + 4) y.f3.f1.length), .row 32 3 y.f3.f2.length (.slice P2 y.f3.f2.length q2) us2, strR (.slice P3 y.f4.length q3) (mtS (b + 4 + (y.f3.f1.length : Nat) + (cnTypeS y.f3.f2 : Nat)) y.f4.length)]) ++ [.row 35 8 y.f5.length (.slice P4 y.f5.length q4) ds] ++ ([] ++ cb) by simp); refine (HY.out.2.2.2 (b + 4 + (y.f3.f1.length : Nat) + (cnTypeS y.f3.f2 : Nat) + (y.f4.length : Nat)) (.slice P4 y.f5.length q4) ds w0 _ (by have := HN.out; have := e3.out; omega) (by have := HN.out; have := e3.out; omega) HB.out HDS.out r0).mono ?_; rintro e w28 ⟨rfl, ds2, hE2, hr, hl2, hb, hk⟩; have n0 := row_sub (q := [.row 35 8 y.f5.length (.slice P4 y.f5.length q4) ds]) (q' := [.row 35 8 y.f5.length (.slice P4 y.f5.length q4) ds2]) (cs' := ca ++ [.lf (.int .i64 b), .lf (.string (mt (b + 1))), .lf (.int .i64 (b + 2)), .lf (.int .i64 (b + 3)), strR (.slice P1 y.f3.f1.length q1) (mtS (b + 4) y.f3.f1.length), .row 32 3 y.f3.f2.length (.slice P2 y.f3.f2.length q2) us2, strR (.slice P3 y.f4.length q3) (mtS (b + 4 + (y.f3.f1.length : Nat) + (cnTypeS y.f3.f2 : Nat)) y.f4.length), .row 35 8 y.f5.length (.slice P4 y.f5.length q4) ds2] ++ cb) HQ.out (p := ca ++ [.lf (.int .i64 b), .lf (.string (mt (b + 1))), .lf (.int .i64 (b + 2)), .lf (.int .i64 (b + 3)), strR (.slice P1 y.f3.f1.length q1) (mtS (b + 4) y.f3.f1.length), .row 32 3 y.f3.f2.length (.slice P2 y.f3.f2.length q2) us2, strR (.slice P3 y.f4.length q3) (mtS (b + 4 + (y.f3.f1.length : Nat) + (cnTypeS y.f3.f2 : Nat)) y.f4.length)]) (s := [] ++ cb) (by simp) (by simp) rfl (by rw [rowc, rowc, hl2]) hr hk; have n4 := k_ (HK.out.then_ hk (fun k h_ => Or.inl (sub_mem (e := 35) (sz := 8) (n := xs.length) (v := (.slice (some ⟨g, 0, none⟩) xs.length cv)) (q := [.row 35 8 y.f5.length (.slice P4 y.f5.length q4) ds]) (p := ca ++ [.lf (.int .i64 b), .lf (.string (mt (b + 1))), .lf (.int .i64 (b + 2)), .lf (.int .i64 (b + 3)), strR (.slice P1 y.f3.f1.length q1) (mtS (b + 4) y.f3.f1.length), .row 32 3 y.f3.f2.length (.slice P2 y.f3.f2.length q2) us2, strR (.slice P3 y.f4.length q3) (mtS (b + 4 + (y.f3.f1.length : Nat) + (cnTypeS y.f3.f2 : Nat)) y.f4.length)]) (s := [] ++ cb) (by simp) HL.out k h_))); have n1 := k_ n0.1; have n2 := k_ (show blS (ca ++ [.lf (.int .i64 b), .lf (.string (mt (b + 1))), .lf (.int .i64 (b + 2)), .lf (.int .i64 (b + 3)), strR (.slice P1 y.f3.f1.length q1) (mtS (b + 4) y.f3.f1.length), .row 32 3 y.f3.f2.length (.slice P2 y.f3.f2.length q2) us2, strR (.slice P3 y.f4.length q3) (mtS (b + 4 + (y.f3.f1.length : Nat) + (cnTypeS y.f3.f2 : Nat)) y.f4.length), .row 35 8 y.f5.length (.slice P4 y.f5.length q4) ds2] ++ cb) = blS cs0 from n0.2.trans HL.out); have n3 := k_ hb; have HDS2 := k_ hE2; clear HQ HL HB HK; have HQ := n1; have HL := n2; have HB := n3; have HK := n4; clear n1 n2 n3 n4; clear n0 r0 hr hb hk hl2 hE2; (try clear q7_ f7_)))
   go_roundg (gk - 1)
   case measure => have := HI.out; have := HD.out; omega
   case rel => exact ⟨_, i + 1, _, rfl, (by first | rfl | rw [hwi] | simp [hwi]), ⟨by have := HI.out; have := HD.out; omega, by have e1 := cnTermS_take xs i HD.out; rw [← HYE.out] at e1; have := HI.out; have := e3.out; omega⟩, ⟨(by rw [← mkTermS_step xs i HD.out a, ← HYE.out, ← HI.out.2]; exact TeES_put (by rw [mkTermS_len]; exact HD.out) HTA.out ((TeE_eq _ _).2 ⟨[.lf (.int .i64 (b + 3)), strR (.slice P1 y.f3.f1.length q1) (mtS (b + 4) y.f3.f1.length), .row 32 3 y.f3.f2.length (.slice P2 y.f3.f2.length q2) us2], .slice P3 y.f4.length q3, .slice P4 y.f5.length q4, ds2, by rw [mkTerm_eq]; simp only [mkTermS_length, List.cons_append, List.nil_append], (TyE_eq _ _).2 ⟨.slice P1 y.f3.f1.length q1, .slice P2 y.f3.f2.length q2, us2, by rw [mkTerm_eq]; simp only [mkTypeS_length], by rw [mkTerm_eq]; exact HUS2.out⟩, by rw [mkTerm_eq]; exact HDS2.out⟩) HTB.out)⟩, HQ, HL, HB, HK⟩
  ·have d3 : decide ((i : Int) < (xs.length : Int)) = false := decide_eq_false (by omega)
   have d4 : ((i : Int) < (xs.length : Int)) = False := eq_false (by omega)
   have hz : i = xs.length := by have := HI.out; omega
   subst hz
   rw [List.take_length, List.drop_length, List.append_nil] at HE
   rw [List.take_length] at HI
   clear d1
   go_wp2
   go_ret
   exact ⟨by rw [← HI.out.2]; rfl, cs, HE.out, HQ.out, HL.out, HB.out, HK.out⟩
theorem MkES_in : ∀ x : S35, SmTerm x → MkES x.f5 := by
 refine indTermI fun x ih hx => ?_
 exact MkES_step x.f5 hx.p5.1 (fun y hy => ⟨(hx.p5.2 y hy).p3.p1.1, MkTS_in y.f3 (hx.p5.2 y hy).p3, (hx.p5.2 y hy).p4.1, ih y hy (hx.p5.2 y hy)⟩)
set_option maxHeartbeats 8000000 in
set_option maxRecDepth 100000 in
theorem markType_h (x : S32) (hx : SmType x) (a : Int) (h0 : 0 ≤ a) (hb : a + (x.f1.length : Nat) + (cnTypeS x.f2 : Nat) ≤ 4611686018427387000) (k : Int) (v1 v2 : Value) (us : List HT) (w0 w : World) (hB : Below w0.heap.size w0 w) (hE : TyES x.f2 us) (hA : Apt w w0.heap.size [strR v1 x.f1, .row 32 3 x.f2.length v2 us]) :
  Calls Tryd.prog 35 #[.agg #[.int .i64 k, v1, v2], .int .i64 a] w fun e w' => e = .returned (.int .i64 (a + (x.f1.length : Nat) + (cnTypeS x.f2 : Nat))) ∧ ∃ us' : List HT, TyES (mkTypeS x.f2 (a + (x.f1.length : Nat))) us' ∧ Apt w' w0.heap.size [strR v1 (mtS a x.f1.length), .row 32 3 x.f2.length v2 us'] ∧ blS [strR v1 (mtS a x.f1.length), .row 32 3 x.f2.length v2 us'] = blS [strR v1 x.f1, .row 32 3 x.f2.length v2 us] ∧ Below w0.heap.size w0 w' ∧ Kept w w' (fun k_ => k_ ∈ blS [strR v1 x.f1, .row 32 3 x.f2.length v2 us]) := by
 have HA := k_ (And.intro h0 hb); have HB := k_ hB; have SM := k_ hx; have HE := k_ hE; have HQ := k_ hA; have HL := k_ (Eq.refl (blS [strR v1 x.f1, .row 32 3 x.f2.length v2 us])); have HK := k_ (Kept.refl w (fun k_ => k_ ∈ blS [strR v1 x.f1, .row 32 3 x.f2.length v2 us]))
 clear h0 hb hB hx hE hA
 have LQ := k_ (Apt_lt HQ.out)
 have hu32 := Tryd.underlying32
 have mk1_ := True.intro; have mk2_ := True.intro
 go_enter Tryd.func35, Tryd.ntmps35
 go_wp2_with (first | ((with_reducible refine gate_dst (N := 2) rfl ?_); refine box_event ?hg (N := 2) ?hd (cs := #[.int .i64 k, v1, v2]) (t := 32) ?hr ?_; (case hd => rfl); (case hg => rfl); (case hr => first | (go_simp; done) | (go_simp; rfl)); intro gx hg w1 hbox hb; have DX := k_ (show ∀ b ∈ blS [strR v1 x.f1, .row 32 3 x.f2.length v2 us], b ≠ gx by rw [hg]; exact fun b hb_ => Nat.ne_of_lt (LQ.out b hb_)); have GX := k_ (show w.heap.size ≤ gx by rw [hg]; exact Nat.le_refl _); have n1 := k_ (Apt_below HQ.out hb); have n3 := k_ (below_step HB.out hb); have n4 := k_ (Kept.below HK.out hb); have HX := k_ hbox; clear HQ HB HK hg hbox hb; have HQ := n1; have HB := n3; have HK := n4; clear n1 n3 n4; have q1_ : w1.cell? ⟨gx, 1, none⟩ = some (v1) := (blk_cell HX.out 1).trans rfl) | (go_at_call 36; clear mk1_; have r0 := lst_get (p := []) (q := [strR v1 x.f1]) (s := [.row 32 3 x.f2.length v2 us]) HQ.out; refine (markStringS_own x.f1 (Nat.le_trans SM.out.p1.1 (by decide)) (a) (by have := HA.out; omega) (by have := HA.out; omega) v1 _ w0 _ HB.out (strR_R r0)).mono ?_; rintro e w2 ⟨rfl, hr, hb, hk⟩; have hbl_ := strR_ap (v := v1) x.f1 (mtS (a) x.f1.length); have hqa_ := Apt_str hr; have hka_ := Kept.mono hk (S' := fun k_ => k_ ∈ blS [strR v1 x.f1]) (fun k_ h_ => strR_own h_); clear hr r0; have n0 := lst_sub (p := []) (q := [strR v1 x.f1]) (q' := [strR v1 (mtS (a) x.f1.length)]) (s := [.row 32 3 x.f2.length v2 us]) HQ.out hbl_ hqa_ hka_; have n1 := k_ (show Apt w2 w0.heap.size [strR v1 (mtS (a) x.f1.length), .row 32 3 x.f2.length v2 us] from n0.1); have n2 := k_ (show blS [strR v1 (mtS (a) x.f1.length), .row 32 3 x.f2.length v2 us] = blS [strR v1 x.f1, .row 32 3 x.f2.length v2 us] from n0.2.trans HL.out); have n3 := k_ hb; have n4 := k_ (HK.out.then_ hka_ (fun k_ h_ => Or.inl (by rw [← HL.out]; exact lst_mem (p := []) (q := [strR v1 x.f1]) (s := [.row 32 3 x.f2.length v2 us]) h_))); have n5 := k_ (blk_kept HX.out hka_ (fun h_ => DX.out gx (by rw [← HL.out]; exact lst_mem (p := []) (q := [strR v1 x.f1]) (s := [.row 32 3 x.f2.length v2 us]) h_) rfl)); clear HQ HL HB HK HX n0 hb hk hbl_ hqa_ hka_; have HQ := n1; have HL := n2; have HB := n3; have HK := n4; have HX := n5; clear n1 n2 n3 n4 n5; have q2_ : w2.cell? ⟨gx, 2, none⟩ = some (v2) := (blk_cell HX.out 2).trans rfl) | (go_at_call 50; have r0 := lst_get (p := [strR v1 (mtS (a) x.f1.length)]) (q := [.row 32 3 x.f2.length v2 us]) (s := []) HQ.out; refine (MkTS_in x SM.out (a + (x.f1.length : Nat)) v2 us w0 _ (by have := HA.out; omega) (by have := HA.out; omega) HB.out HE.out r0).mono ?_; rintro e w3 ⟨rfl, us', hE2, hqa_, hl2, hb, hk⟩; have hbl_ : blS [.row 32 3 x.f2.length v2 us'] = blS [.row 32 3 x.f2.length v2 us] := (by simp only [rowc, hl2]); have hka_ := hk; have HE2 := k_ hE2; clear hE2 hl2 r0; have n0 := lst_sub (p := [strR v1 (mtS (a) x.f1.length)]) (q := [.row 32 3 x.f2.length v2 us]) (q' := [.row 32 3 x.f2.length v2 us']) (s := []) HQ.out hbl_ hqa_ hka_; have n1 := k_ (show Apt w3 w0.heap.size [strR v1 (mtS (a) x.f1.length), .row 32 3 x.f2.length v2 us'] from n0.1); have n2 := k_ (show blS [strR v1 (mtS (a) x.f1.length), .row 32 3 x.f2.length v2 us'] = blS [strR v1 x.f1, .row 32 3 x.f2.length v2 us] from n0.2.trans HL.out); have n3 := k_ hb; have n4 := k_ (HK.out.then_ hka_ (fun k_ h_ => Or.inl (by rw [← HL.out]; exact lst_mem (p := [strR v1 (mtS (a) x.f1.length)]) (q := [.row 32 3 x.f2.length v2 us]) (s := []) h_))); have n5 := k_ (blk_kept HX.out hka_ (fun h_ => DX.out gx (by rw [← HL.out]; exact lst_mem (p := [strR v1 (mtS (a) x.f1.length)]) (q := [.row 32 3 x.f2.length v2 us]) (s := []) h_) rfl)); clear HQ HL HB HK HX n0 hb hk hbl_ hqa_ hka_; have HQ := n1; have HL := n2; have HB := n3; have HK := n4; have HX := n5; clear n1 n2 n3 n4 n5))
 go_ret
 exact ⟨rfl, us', HE2.out, HQ.out, HL.out, HB.out, HK.out⟩
set_option maxHeartbeats 8000000 in
set_option maxRecDepth 100000 in
theorem markTerm_h (x : S35) (hx : SmTerm x) (a : Int) (h0 : 0 ≤ a) (hb : a + (x.f3.f1.length : Nat) + (cnTypeS x.f3.f2 : Nat) + (x.f4.length : Nat) + (cnTermS x.f5 : Nat) ≤ 4611686018427387000) (k n k2 : Int) (nm : ByteArray) (v1 v2 v3 v4 : Value) (us ds : List HT) (w0 w : World) (hB : Below w0.heap.size w0 w) (hE : TyES x.f3.f2 us) (hD : TeES x.f5 ds) (hA : Apt w w0.heap.size [strR v1 x.f3.f1, .row 32 3 x.f3.f2.length v2 us, strR v3 x.f4, .row 35 8 x.f5.length v4 ds]) :
  Calls Tryd.prog 9 #[.agg #[.int .i64 k, .string nm, .int .i64 n, .int .i64 k2, v1, v2, v3, v4], .int .i64 a] w fun e w' => e = .returned (.int .i64 (a + (x.f3.f1.length : Nat) + (cnTypeS x.f3.f2 : Nat) + (x.f4.length : Nat) + (cnTermS x.f5 : Nat))) ∧ ∃ us' ds' : List HT, TyES (mkTypeS x.f3.f2 (a + (x.f3.f1.length : Nat))) us' ∧ TeES (mkTermS x.f5 (a + (x.f3.f1.length : Nat) + (cnTypeS x.f3.f2 : Nat) + (x.f4.length : Nat))) ds' ∧ Apt w' w0.heap.size [strR v1 (mtS a x.f3.f1.length), .row 32 3 x.f3.f2.length v2 us', strR v3 (mtS (a + (x.f3.f1.length : Nat) + (cnTypeS x.f3.f2 : Nat)) x.f4.length), .row 35 8 x.f5.length v4 ds'] ∧ blS [strR v1 (mtS a x.f3.f1.length), .row 32 3 x.f3.f2.length v2 us', strR v3 (mtS (a + (x.f3.f1.length : Nat) + (cnTypeS x.f3.f2 : Nat)) x.f4.length), .row 35 8 x.f5.length v4 ds'] = blS [strR v1 x.f3.f1, .row 32 3 x.f3.f2.length v2 us, strR v3 x.f4, .row 35 8 x.f5.length v4 ds] ∧ Below w0.heap.size w0 w' ∧ Kept w w' (fun k_ => k_ ∈ blS [strR v1 x.f3.f1, .row 32 3 x.f3.f2.length v2 us, strR v3 x.f4, .row 35 8 x.f5.length v4 ds]) := by
 have HA := k_ (And.intro h0 hb); have HB := k_ hB; have SM := k_ hx; have HE := k_ hE; have HDE := k_ hD; have HQ := k_ hA; have HL := k_ (Eq.refl (blS [strR v1 x.f3.f1, .row 32 3 x.f3.f2.length v2 us, strR v3 x.f4, .row 35 8 x.f5.length v4 ds])); have HK := k_ (Kept.refl w (fun k_ => k_ ∈ blS [strR v1 x.f3.f1, .row 32 3 x.f3.f2.length v2 us, strR v3 x.f4, .row 35 8 x.f5.length v4 ds]))
 clear h0 hb hB hx hE hA hD
 have LQ := k_ (Apt_lt HQ.out)
 have hu35 := Tryd.underlying35
 have hu32 := Tryd.underlying32
 have mk1_ := True.intro; have mk2_ := True.intro
 go_enter Tryd.func9, Tryd.ntmps9
 go_wp2_with (first | ((with_reducible refine gate_dst (N := 2) rfl ?_); refine box_event ?hg (N := 2) ?hd (cs := #[.int .i64 k, .string nm, .int .i64 n, .int .i64 k2, v1, v2, v3, v4]) (t := 35) ?hr ?_; (case hd => rfl); (case hg => rfl); (case hr => first | (go_simp; done) | (go_simp; rfl)); intro gx hg w1 hbox hb; have DX := k_ (show ∀ b ∈ blS [strR v1 x.f3.f1, .row 32 3 x.f3.f2.length v2 us, strR v3 x.f4, .row 35 8 x.f5.length v4 ds], b ≠ gx by rw [hg]; exact fun b hb_ => Nat.ne_of_lt (LQ.out b hb_)); have GX := k_ (show w.heap.size ≤ gx by rw [hg]; exact Nat.le_refl _); have n1 := k_ (Apt_below HQ.out hb); have n3 := k_ (below_step HB.out hb); have n4 := k_ (Kept.below HK.out hb); have HX := k_ hbox; clear HQ HB HK hg hbox hb; have HQ := n1; have HB := n3; have HK := n4; clear n1 n3 n4; have q3_ : w1.cell? ⟨gx, 3, none⟩ = some (.int .i64 k2) := (blk_cell HX.out 3).trans rfl; have q4_ : w1.cell? ⟨gx, 4, none⟩ = some (v1) := (blk_cell HX.out 4).trans rfl; have q5_ : w1.cell? ⟨gx, 5, none⟩ = some (v2) := (blk_cell HX.out 5).trans rfl) | (go_at_call 35; have r0 := lst_get (p := []) (q := [strR v1 x.f3.f1, .row 32 3 x.f3.f2.length v2 us]) (s := [strR v3 x.f4, .row 35 8 x.f5.length v4 ds]) HQ.out; refine (markType_h x.f3 SM.out.p3 a (by have := HA.out; omega) (by have := HA.out; omega) k2 v1 v2 us w0 _ HB.out HE.out r0).mono ?_; rintro e w2 ⟨rfl, us', hE2, hqa_, hbl_, hb, hk⟩; have hka_ := hk; have HE2 := k_ hE2; clear hE2 r0; have n0 := lst_sub (p := []) (q := [strR v1 x.f3.f1, .row 32 3 x.f3.f2.length v2 us]) (q' := [strR v1 (mtS a x.f3.f1.length), .row 32 3 x.f3.f2.length v2 us']) (s := [strR v3 x.f4, .row 35 8 x.f5.length v4 ds]) HQ.out hbl_ hqa_ hka_; have n1 := k_ (show Apt w2 w0.heap.size [strR v1 (mtS a x.f3.f1.length), .row 32 3 x.f3.f2.length v2 us', strR v3 x.f4, .row 35 8 x.f5.length v4 ds] from n0.1); have n2 := k_ (show blS [strR v1 (mtS a x.f3.f1.length), .row 32 3 x.f3.f2.length v2 us', strR v3 x.f4, .row 35 8 x.f5.length v4 ds] = blS [strR v1 x.f3.f1, .row 32 3 x.f3.f2.length v2 us, strR v3 x.f4, .row 35 8 x.f5.length v4 ds] from n0.2.trans HL.out); have n3 := k_ hb; have n4 := k_ (HK.out.then_ hka_ (fun k_ h_ => Or.inl (by rw [← HL.out]; exact lst_mem (p := []) (q := [strR v1 x.f3.f1, .row 32 3 x.f3.f2.length v2 us]) (s := [strR v3 x.f4, .row 35 8 x.f5.length v4 ds]) h_))); have n5 := k_ (blk_kept HX.out hka_ (fun h_ => DX.out gx (by rw [← HL.out]; exact lst_mem (p := []) (q := [strR v1 x.f3.f1, .row 32 3 x.f3.f2.length v2 us]) (s := [strR v3 x.f4, .row 35 8 x.f5.length v4 ds]) h_) rfl)); clear HQ HL HB HK HX n0 hb hk hbl_ hqa_ hka_; have HQ := n1; have HL := n2; have HB := n3; have HK := n4; have HX := n5; clear n1 n2 n3 n4 n5; have q6_ : w2.cell? ⟨gx, 6, none⟩ = some (v3) := (blk_cell HX.out 6).trans rfl) | (go_at_call 36; clear mk1_; have r0 := lst_get (p := [strR v1 (mtS a x.f3.f1.length), .row 32 3 x.f3.f2.length v2 us']) (q := [strR v3 x.f4]) (s := [.row 35 8 x.f5.length v4 ds]) HQ.out; refine (markStringS_own x.f4 (Nat.le_trans SM.out.p4.1 (by decide)) (a + (x.f3.f1.length : Nat) + (cnTypeS x.f3.f2 : Nat)) (by have := HA.out; omega) (by have := HA.out; omega) v3 _ w0 _ HB.out (strR_R r0)).mono ?_; rintro e w3 ⟨rfl, hr, hb, hk⟩; have hbl_ := strR_ap (v := v3) x.f4 (mtS (a + (x.f3.f1.length : Nat) + (cnTypeS x.f3.f2 : Nat)) x.f4.length); have hqa_ := Apt_str hr; have hka_ := Kept.mono hk (S' := fun k_ => k_ ∈ blS [strR v3 x.f4]) (fun k_ h_ => strR_own h_); clear hr r0; have n0 := lst_sub (p := [strR v1 (mtS a x.f3.f1.length), .row 32 3 x.f3.f2.length v2 us']) (q := [strR v3 x.f4]) (q' := [strR v3 (mtS (a + (x.f3.f1.length : Nat) + (cnTypeS x.f3.f2 : Nat)) x.f4.length)]) (s := [.row 35 8 x.f5.length v4 ds]) HQ.out hbl_ hqa_ hka_; have n1 := k_ (show Apt w3 w0.heap.size [strR v1 (mtS a x.f3.f1.length), .row 32 3 x.f3.f2.length v2 us', strR v3 (mtS (a + (x.f3.f1.length : Nat) + (cnTypeS x.f3.f2 : Nat)) x.f4.length), .row 35 8 x.f5.length v4 ds] from n0.1); have n2 := k_ (show blS [strR v1 (mtS a x.f3.f1.length), .row 32 3 x.f3.f2.length v2 us', strR v3 (mtS (a + (x.f3.f1.length : Nat) + (cnTypeS x.f3.f2 : Nat)) x.f4.length), .row 35 8 x.f5.length v4 ds] = blS [strR v1 x.f3.f1, .row 32 3 x.f3.f2.length v2 us, strR v3 x.f4, .row 35 8 x.f5.length v4 ds] from n0.2.trans HL.out); have n3 := k_ hb; have n4 := k_ (HK.out.then_ hka_ (fun k_ h_ => Or.inl (by rw [← HL.out]; exact lst_mem (p := [strR v1 (mtS a x.f3.f1.length), .row 32 3 x.f3.f2.length v2 us']) (q := [strR v3 x.f4]) (s := [.row 35 8 x.f5.length v4 ds]) h_))); have n5 := k_ (blk_kept HX.out hka_ (fun h_ => DX.out gx (by rw [← HL.out]; exact lst_mem (p := [strR v1 (mtS a x.f3.f1.length), .row 32 3 x.f3.f2.length v2 us']) (q := [strR v3 x.f4]) (s := [.row 35 8 x.f5.length v4 ds]) h_) rfl)); clear HQ HL HB HK HX n0 hb hk hbl_ hqa_ hka_; have HQ := n1; have HL := n2; have HB := n3; have HK := n4; have HX := n5; clear n1 n2 n3 n4 n5; have q7_ : w3.cell? ⟨gx, 7, none⟩ = some (v4) := (blk_cell HX.out 7).trans rfl) | (go_at_call 37; have r0 := lst_get (p := [strR v1 (mtS a x.f3.f1.length), .row 32 3 x.f3.f2.length v2 us', strR v3 (mtS (a + (x.f3.f1.length : Nat) + (cnTypeS x.f3.f2 : Nat)) x.f4.length)]) (q := [.row 35 8 x.f5.length v4 ds]) (s := []) HQ.out; refine (MkES_in x SM.out (a + (x.f3.f1.length : Nat) + (cnTypeS x.f3.f2 : Nat) + (x.f4.length : Nat)) v4 ds w0 _ (by have := HA.out; omega) (by have := HA.out; omega) HB.out HDE.out r0).mono ?_; rintro e w4 ⟨rfl, ds', hE2, hqa_, hl2, hb, hk⟩; have hbl_ : blS [.row 35 8 x.f5.length v4 ds'] = blS [.row 35 8 x.f5.length v4 ds] := (by simp only [rowc, hl2]); have hka_ := hk; have HDE2 := k_ hE2; clear hE2 hl2 r0; have n0 := lst_sub (p := [strR v1 (mtS a x.f3.f1.length), .row 32 3 x.f3.f2.length v2 us', strR v3 (mtS (a + (x.f3.f1.length : Nat) + (cnTypeS x.f3.f2 : Nat)) x.f4.length)]) (q := [.row 35 8 x.f5.length v4 ds]) (q' := [.row 35 8 x.f5.length v4 ds']) (s := []) HQ.out hbl_ hqa_ hka_; have n1 := k_ (show Apt w4 w0.heap.size [strR v1 (mtS a x.f3.f1.length), .row 32 3 x.f3.f2.length v2 us', strR v3 (mtS (a + (x.f3.f1.length : Nat) + (cnTypeS x.f3.f2 : Nat)) x.f4.length), .row 35 8 x.f5.length v4 ds'] from n0.1); have n2 := k_ (show blS [strR v1 (mtS a x.f3.f1.length), .row 32 3 x.f3.f2.length v2 us', strR v3 (mtS (a + (x.f3.f1.length : Nat) + (cnTypeS x.f3.f2 : Nat)) x.f4.length), .row 35 8 x.f5.length v4 ds'] = blS [strR v1 x.f3.f1, .row 32 3 x.f3.f2.length v2 us, strR v3 x.f4, .row 35 8 x.f5.length v4 ds] from n0.2.trans HL.out); have n3 := k_ hb; have n4 := k_ (HK.out.then_ hka_ (fun k_ h_ => Or.inl (by rw [← HL.out]; exact lst_mem (p := [strR v1 (mtS a x.f3.f1.length), .row 32 3 x.f3.f2.length v2 us', strR v3 (mtS (a + (x.f3.f1.length : Nat) + (cnTypeS x.f3.f2 : Nat)) x.f4.length)]) (q := [.row 35 8 x.f5.length v4 ds]) (s := []) h_))); have n5 := k_ (blk_kept HX.out hka_ (fun h_ => DX.out gx (by rw [← HL.out]; exact lst_mem (p := [strR v1 (mtS a x.f3.f1.length), .row 32 3 x.f3.f2.length v2 us', strR v3 (mtS (a + (x.f3.f1.length : Nat) + (cnTypeS x.f3.f2 : Nat)) x.f4.length)]) (q := [.row 35 8 x.f5.length v4 ds]) (s := []) h_) rfl)); clear HQ HL HB HK HX n0 hb hk hbl_ hqa_ hka_; have HQ := n1; have HL := n2; have HB := n3; have HK := n4; have HX := n5; clear n1 n2 n3 n4 n5))
 go_ret
 exact ⟨rfl, us', ds', HE2.out, HDE2.out, HQ.out, HL.out, HB.out, HK.out⟩
end Go.Proofs.YtpckkjeapfdilaaDoor.Px
end
section
namespace Go.Proofs.YtpckkjeapfdilaaDoor.Px
open Go.RowKit Go.Proofs.YtpckkjeapfdilaaDoorW.PrintWords Go.Proofs.YtpckkjeapfdilaaDoorW.PrintLast Go.Proofs.YtpckkjeapfdilaaDoor.Pl Go.Proofs.YtpckkjeapfdilaaDoor.Ext
set_option linter.unusedVariables false
set_option linter.unusedSimpArgs false
theorem cut_facts (n : Nat) (l : Int) (h0 : 0 ≤ l) (h : 0 ≤ cut n l) : 0 ≤ cut n l ∧ cut n l ≤ l ∧ (n : Int) + cut n l = l ∧ (n : Int) ≤ l := by
 unfold cut at *
 split at h
 ·rename_i c
  rw [if_pos c]
  exact ⟨by omega, by omega, by omega, c⟩
 ·omega
theorem cn_pos (x : S35) : 4 ≤ cnTerm x := by rw [cnTerm_eq]; omega
theorem cn_varT (s : ByteArray) : cnTerm (varT s) = 4 := by rw [cnTerm_eq]; rfl
theorem cnTermS_sum (xs : List S35) : cnTermS xs = (xs.map cnTerm).sum := by
 induction xs with
 | nil => rfl
 | cons x r ih => simp [cnTermS, ih]
theorem cn_subV : ∀ (k : Nat) (x : S35) (nm s : ByteArray), cnTerm (subF k x nm (varT s)) ≤ cnTerm x
 | 0, x, nm, s => Nat.le_refl _
 | k + 1, x, nm, s => by
  rw [subF]
  split
  ·rw [cn_varT]; exact cn_pos x
  ·rw [cnTerm_eq, cnTerm_eq x]
   simp only [argsF, cnTermS_sum, List.map_map]
   have := sum_pt cnTerm x.f5 z35 (fun i => cnTerm (argF (subF k) x nm (varT s) i (x.f5.getD i z35))) 1 (fun i hi => by
    have h0 : ∀ (y : S35) (n t : ByteArray), cnTerm (subF k y n (varT t)) ≤ cnTerm y := fun y n t => cn_subV k y n t
    show cnTerm (argF (subF k) x nm (varT s) i (x.f5.getD i z35)) ≤ _
    unfold argF
    generalize x.f5.getD i z35 = y
    split
    ·split
     ·omega
     ·split
      ·have h1 := h0 (subF k y x.f1 (varT (freshN (frL x nm (varT s))))) nm s
       have h2 := h0 y x.f1 (freshN (frL x nm (varT s)))
       omega
      ·have := h0 y nm s; omega
    ·have := h0 y nm s; omega)
   have e : (List.map (cnTerm ∘ fun i => argF (subF k) x nm (varT s) i (x.f5.getD i z35)) (List.range x.f5.length)) = (List.range x.f5.length).map (fun i => cnTerm (argF (subF k) x nm (varT s) i (x.f5.getD i z35))) := rfl
   rw [e]
   omega
theorem cn_sub : ∀ (k : Nat) (x : S35) (nm : ByteArray) (z : S35), cnTerm (subF k x nm z) ≤ cnTerm x * (1 + cnTerm z)
 | 0, x, nm, z => by
  show cnTerm x ≤ _
  rw [Nat.mul_add]
  omega
 | k + 1, x, nm, z => by
  rw [subF]
  split
  ·have h1 : 1 * cnTerm z ≤ cnTerm x * cnTerm z := Nat.mul_le_mul_right _ (by have := cn_pos x; omega)
   rw [Nat.mul_add]
   omega
  ·rw [cnTerm_eq, cnTerm_eq x]
   simp only [argsF, cnTermS_sum, List.map_map]
   have := sum_pt cnTerm x.f5 z35 (fun i => cnTerm (argF (subF k) x nm z i (x.f5.getD i z35))) (1 + cnTerm z) (fun i hi => by
    have h0 : ∀ (y : S35), cnTerm (subF k y nm z) ≤ cnTerm y * (1 + cnTerm z) := fun y => cn_sub k y nm z
    show cnTerm (argF (subF k) x nm z i (x.f5.getD i z35)) ≤ _
    unfold argF
    generalize x.f5.getD i z35 = y
    have hy : cnTerm y ≤ cnTerm y * (1 + cnTerm z) := by rw [Nat.mul_add]; omega
    split
    ·split
     ·exact hy
     ·split
      ·have h1 := h0 (subF k y x.f1 (varT (freshN (frL x nm z))))
       have h2 := cn_subV k y x.f1 (freshN (frL x nm z))
       exact Nat.le_trans h1 (Nat.mul_le_mul_right _ h2)
      ·exact h0 y
    ·exact h0 y)
   have e : (List.map (cnTerm ∘ fun i => argF (subF k) x nm z i (x.f5.getD i z35)) (List.range x.f5.length)) = (List.range x.f5.length).map (fun i => cnTerm (argF (subF k) x nm z i (x.f5.getD i z35))) := rfl
   rw [e, Nat.add_mul]
   have h3 : 4 + x.f3.f1.length + cnTypeS x.f3.f2 + x.f4.length ≤ (4 + x.f3.f1.length + cnTypeS x.f3.f2 + x.f4.length) * (1 + cnTerm z) := by rw [Nat.mul_add]; omega
   omega
theorem cnTop_sub (k : Nat) (x : S35) (nm : ByteArray) (z : S35) (hx : cnTerm x ≤ 4194308) (hz : cnTerm z ≤ 4194308) : cnTop (subF k x nm z) ≤ 4611686018427386000 := by
 have h1 := cn_sub k x nm z
 have h2 : cnTerm x * (1 + cnTerm z) ≤ 4194308 * 4194309 := Nat.mul_le_mul hx (by omega)
 have h3 := cnTerm_eq (subF k x nm z)
 unfold cnTop
 omega

end Go.Proofs.YtpckkjeapfdilaaDoor.Px
end
section
namespace Go.Proofs.YtpckkjeapfdilaaDoor.Px
open Go.RowKit Go.Proofs.YtpckkjeapfdilaaDoor.Ext Go.Proofs.YtpckkjeapfdilaaDoorW.PrintWords Go.Proofs.YtpckkjeapfdilaaDoorW.PrintLast Go.Proofs.YtpckkjeapfdilaaDoorW.PrintMore
attribute [local go_sem] max2_int min2_int max_two min_two max_three min_three max_four min_four   -- for this text's walks alone
set_option linter.unusedVariables false
set_option linter.unusedSimpArgs false

def slices_Clone_string_string.f (l0 : List ByteArray) : Option (List ByteArray) := if l0.length < 8796093022208 then some l0 else none
set_option maxHeartbeats 1000000 in
set_option maxRecDepth 100000 in
theorem slices_Clone_string_string.calls (A0 : Option Addr) (c0 : Nat) (l0 : List ByteArray) (r : List ByteArray) (w : World) (hr0 : Kd.C Kd.string w A0 l0.length l0) (hc0 : l0.length ≤ c0) (h : slices_Clone_string_string.f l0 = some r) :
  Calls Tryd.prog 26 #[.slice A0 l0.length c0] w fun e w' => ∃ v0_ : Value, e = .returned (v0_) ∧ Kd.R Kd.string 9 w' w.heap.size (fun _ => True) v0_ r ∧ Below w.heap.size w w' := by
 unfold slices_Clone_string_string.f at h
 by_cases hl : l0.length < 8796093022208
 case neg =>
  rw [if_neg hl] at h
  cases h
 rw [if_pos hl] at h
 obtain rfl := Option.some.inj h
 have HL := am hl
 have HR0 := am hr0
 have HC0 := am hc0
 clear h hl hr0 hc0
 cases A0 with
 | none =>
  have hz : l0 = [] := by
   rcases Nat.eq_zero_or_pos l0.length with h0 | h0
   ·exact List.eq_nil_of_length_eq_zero h0
   ·obtain ⟨ad, h, _⟩ := HR0.out.2.2 h0
    cases h
  subst hz
  have he : ∀ n c w', (binOp .eql 22 (.slice none n c) (.slice none 0 0)).run Tryd.prog w' = .ok (.bool true) w' := fun n c w' => Go.Proofs.YtpckkjeapfdilaaDoor.Ext.eql_slice_nil Tryd.underlying22 none n c w'
  go_enter Tryd.func26, Tryd.ntmps26
  go_wp2
  go_ret
  exact ⟨_, rfl, Kd.R_nil _ _ _ _ _, Below.refl _ _⟩
 | some ad =>
  have he : ∀ n c w', (binOp .eql 22 (.slice (some ad) n c) (.slice none 0 0)).run Tryd.prog w' = .ok (.bool false) w' := fun n c w' => Go.Proofs.YtpckkjeapfdilaaDoor.Ext.eql_slice_nil Tryd.underlying22 (some ad) n c w'
  go_enter Tryd.func26, Tryd.ntmps26
  go_wp2_with (first
   | ((with_reducible refine gate_dst (N := 5) rfl ?_); refine Kd.R_lit Kd.string _ 9 ?hg (N := 5) ?hd (xs := ([] : List ByteArray)) (inner := []) (ok := fun _ => True) (okp := fun _ => True) ?hr ?hp (fun _ hk => hk) trivial (Below.refl _ _) (Nat.le_refl _) (by simp) ?_; (case hd => rfl); (case hg => rfl); (case hr => exact hrw); (case hp => exact (Reps.none _ _)); intro v5 w5 ho5 hb5 hg_ hnew_; clear hg_ hnew_; have HO5 := am ho5; have HB5 := am hb5; clear ho5 hb5)
   | ((with_reducible refine gate_builtin (b := .append) (xs := #[.tmp 5, .tmp 6]) rfl ?_); at_builtin; refine Kd.R_append_rows Kd.string (w0 := w) w.heap.size rfl (.tmp 5) (.tmp 6) 22 9 (.string ⟨#[]⟩) 16 rfl Tryd.underlying22 info9 rfl (by decide) (by omega) v5 ([] : List ByteArray) l0 _ _ _ (fun _ => True) (fun _ => False) rfl rfl ?aO ?aR (fun _ _ h => h) (fun _ h => h.elim) ?aF ?aB ?aS ?aL ?_; (case aR => exact (Kd.C_below HR0.out HB5.out)); (case aB => exact HB5.out); (case aF => exact (fun _ _ => trivial)); (case aO => exact HO5.out); (case aS => exact below_size HB5.out); (case aL => have := HL.out; simp; omega); intro v7 w7 ho hb hg hat; have HO7 := am ho; have HB7 := am hb; clear ho hb hg hat; obtain ⟨A7, c7, e7⟩ := Kd.R_slice HO7.out; subst e7))
  go_ret
  exact ⟨_, rfw, HO7.out, HB7.out⟩

end Go.Proofs.YtpckkjeapfdilaaDoor.Px
end
