/- Is a type right, as the two programs walk it. No condition beyond the sizes named. -/
import Derived.Test.YtaakdfbfgabdbaaZTypesExtM
import Derived.Test.YtaakdfbfgabdbaaZTypesPt10M
import Derived.Test.YtaakdfbfgabdbaaZTypesPt7M
import Derived.Test.YtaakdfbfgabdbaaZTypesPt6M
import Derived.Test.YtaakdfbfgabdbaaZTypesPt15M
import Derived.Test.YtaakdfbfgabdbaaZTypesPt13
import Derived.Test.YtaakdfbfgabdbaaZTypesPt16
import Derived.Test.YtaakdfbfgabdbaaZTypesPtDrawT3M
import Derived.Test.YtaakdfbfgabdbaaZTypesPt14M
section
namespace Go.Proofs.Ytaakdfbfgabdbaa.Pt
open Go.RowKit Go.Proofs.YtaakdfbfgabdbaaW.PrintWords Go.Proofs.YtaakdfbfgabdbaaW.PrintLast Go.Proofs.Ytaakdfbfgabdbaa.Pl Go.Proofs.Ytaakdfbfgabdbaa.Ext
set_option linter.unusedVariables false
set_option linter.unusedSimpArgs false
theorem spec_l3Form_ev : ∀ x : S27, SmType x → Ev (fun k => spec_l3Form.f k x.f0 x.f1 x.f2) (formT x) := by
 refine indTypeI fun x ih hs => ?_
 have j2 : ∀ b : Bool, (b = true ↔ (x.f0 = 1 ∨ x.f0 = 2)) → Ev (fun k => spec_l3Form.j2 k (-1) x.f0 b x.f0 x.f1 x.f2) (decide ((x.f1.length : Int) = 0) && decide ((x.f2.length : Int) = wantT x.f0)) := by
  intro b hb
  refine Ev.up ?_
  simp only [spec_l3Form.j2]
  unfold wantT
  refine Ev.cases (fun h => ?_) (fun h => ?_)
  ·rw [if_pos (hb.1 h)]
   exact Ev.cases (fun g => Ev.const (by rw [decide_eq_true g, Bool.true_and]; rfl)) (fun g => Ev.const (by rw [decide_eq_false g]; rfl))
  ·rw [if_neg (fun g => h (hb.2 g))]
   refine Ev.cases (fun g4 => ?_) (fun g4 => ?_)
   ·rw [if_pos g4]; exact Ev.cases (fun g => Ev.const (by rw [decide_eq_true g, Bool.true_and]; rfl)) (fun g => Ev.const (by rw [decide_eq_false g]; rfl))
   rw [if_neg g4]
   refine Ev.cases (fun g5 => ?_) (fun g5 => ?_)
   ·rw [if_pos g5]; exact Ev.cases (fun g => Ev.const (by rw [decide_eq_true g, Bool.true_and]; rfl)) (fun g => Ev.const (by rw [decide_eq_false g]; rfl))
   ·rw [if_neg g5]; exact Ev.cases (fun g => Ev.const (by rw [decide_eq_true g, Bool.true_and]; rfl)) (fun g => Ev.const (by rw [decide_eq_false g]; rfl))
 have j1 : ∀ b : Bool, Ev (fun k => spec_l3Form.j1 k b x.f0 x.f1 x.f2) (!b && (decide ((x.f1.length : Int) = 0) && decide ((x.f2.length : Int) = wantT x.f0))) := by
  intro b
  refine Ev.up ?_
  simp only [spec_l3Form.j1]
  refine Ev.cases (fun h => Ev.const (by simp [h])) (fun h => ?_)
  rw [Bool.eq_false_iff.2 h, Bool.not_false, Bool.true_and]
  refine Ev.cases (fun h1 => j2 _ (by simp [h1])) (fun h1 => j2 _ (by simp [h1]))
 rw [formT_eq, formTS_all]
 refine Ev.up ?_
 simp only [spec_l3Form.f]
 refine all_ev x.f2 z27 formT _ (fun k i => spec_l3Form.l0 k (i : Int) x.f0 x.f1 x.f2) (fun k i => spec_l3Form.f k (rd_T27 x.f2 (i : Int)).f0 (rd_T27 x.f2 (i : Int)).f1 (rd_T27 x.f2 (i : Int)).f2) (fun k i hi => ?_) ?_ (fun i hi => ih (x.f2.getD i z27) (mem_getD x.f2 z27 i hi) (hs.p2.2 _ (mem_getD x.f2 z27 i hi)))
 ·simp only [spec_l3Form.l0]
  rw [if_pos (by omega), if_pos (by omega), w1' hi hs.p2.1]
 ·refine Ev.up ?_
  simp only [spec_l3Form.l0]
  refine Ev.neg (by omega) ?_
  unfold topT
  refine Ev.cases (fun h3 => ?_) (fun h3 => ?_)
  ·rw [if_pos h3]
   refine Ev.cases (fun hl => ?_) (fun hl => ?_)
   ·rw [decide_eq_true hl, Bool.true_and]
    refine Ev.bind (spec_l3Labels_ev x.f1 hs.p1.1 hs.p1.2) ?_
    refine Ev.cases (fun hb => ?_) (fun hb => ?_)
    ·rw [hb, Bool.true_and]
     refine Ev.bind (spec_l3Has_ev 5 x hs) (Ev.const ?_)
     rw [hasT_eq, h3]; simp
    ·rw [Bool.eq_false_iff.2 hb]; exact Ev.now _
   ·rw [decide_eq_false hl]; exact Ev.now _
  ·rw [if_neg h3]
   refine Ev.cases (fun h4 => ?_) (fun h4 => ?_)
   ·refine Ev.cases (fun h1 => Ev.pos (by omega) ?_) (fun h1 => ?_)
    ·have hl1 : x.f2.length = 1 := by omega
     have hh := spec_l3Has_ev 5 (x.f2.getD 0 z27) (hs.p2.2 _ (mem_getD x.f2 z27 0 (by omega)))
     refine Ev.bind hh ?_
     have e : hasT 5 (x.f2.getD 0 z27) = hasTS 5 x.f2 := by
      obtain ⟨y, hy⟩ := List.length_eq_one_iff.1 hl1
      rw [hy]; simp [hasTS]
     rw [e]
     refine Ev.eq (j1 _) ?_
     cases hc : hasTS 5 x.f2
     ·rw [if_neg (by simp)]; rfl
     ·rw [if_pos ⟨h4, hl1, rfl⟩]; rfl
    ·rw [if_neg (by omega)]
     exact j1 false
   ·rw [if_neg (fun h => h4 h.1)]
    exact j1 false
theorem impl_typeForm_ev : ∀ x : S27, SmType x → ∀ p d, 0 ≤ d → d ≤ 8 → Ev (fun k => impl_typeForm.f k x.f0 x.f1 x.f2 p d) (tfT p d x) := by
 refine indTypeI fun x ih hs p d hd0 hd1 => ?_
 have wx := wf64 hs.p0
 have hl1 := hs.p1.1
 have j4 : d ≤ 7 → ∀ q, Ev (fun k => impl_typeForm.j4 k d q x.f2) (tfTS q (d + 1) x.f2) := by
  intro hd7 q
  refine Ev.up ?_
  simp only [impl_typeForm.j4]
  refine Ev.eq (all_ev x.f2 z27 (tfT q (d + 1)) true (fun k i => impl_typeForm.l0 k d q (x.f2.length : Int) (i : Int) x.f2) (fun k i => impl_typeForm.f k (rd_T27 x.f2 (i : Int)).f0 (rd_T27 x.f2 (i : Int)).f1 (rd_T27 x.f2 (i : Int)).f2 q (d + 1)) (fun k i hi => ?_) ?_ (fun i hi => ?_)) (by rw [tfTS_all, Bool.and_true])
  ·simp only [impl_typeForm.l0]
   rw [if_pos (by omega), if_pos (by omega), if_pos (by omega), w1' hi hs.p2.1, w64 (a := d + 1) (by omega) (by omega)]
  ·refine Ev.up ?_
   simp only [impl_typeForm.l0]
   exact Ev.neg (by omega) (Ev.now _)
  ·exact ih (x.f2.getD i z27) (mem_getD x.f2 z27 i hi) (hs.p2.2 _ (mem_getD x.f2 z27 i hi)) q (d + 1) (by omega) (by omega)
 have j3 : d ≤ 7 → Ev (fun k => impl_typeForm.j3 k p d x.f0 x.f2) (tfTS (p || (decide (x.f0 = 3) || decide (x.f0 = 4))) (d + 1) x.f2) := by
  intro hd7
  refine Ev.up ?_
  simp only [impl_typeForm.j3]
  refine Ev.cases (fun h => ?_) (fun h => ?_)
  ·rw [h, Bool.true_or]; exact j4 hd7 true
  ·rw [Bool.eq_false_iff.2 h, Bool.false_or]
   refine Ev.cases (fun h3 => ?_) (fun h3 => ?_)
   ·rw [decide_eq_true h3, Bool.true_or]; exact j4 hd7 true
   ·rw [decide_eq_false h3, Bool.false_or]; exact j4 hd7 _
 have j2 : d ≤ 7 → ∀ b : Bool, Ev (fun k => impl_typeForm.j2 k p d b x.f0 x.f1 x.f2) (!b && ((decide (x.f0 = 3) || decide (x.f1.length = 0)) && tfTS (p || (decide (x.f0 = 3) || decide (x.f0 = 4))) (d + 1) x.f2)) := by
  intro hd7 b
  refine Ev.up ?_
  simp only [impl_typeForm.j2]
  refine Ev.cases (fun h => Ev.const (by rw [h]; rfl)) (fun h => ?_)
  rw [Bool.eq_false_iff.2 h, Bool.not_false, Bool.true_and]
  refine Ev.cases (fun h3 => ?_) (fun h3 => ?_)
  ·have := j3 hd7
   rw [decide_eq_true h3] at this ⊢
   exact this
  ·rw [decide_eq_false h3, Bool.false_or]
   refine Ev.cases (fun hl => Ev.const ?_) (fun hl => ?_)
   ·rw [decide_eq_false (by omega)]; rfl
   ·rw [decide_eq_true (by omega), Bool.true_and]
    have := j3 hd7
    rw [decide_eq_false h3] at this
    exact this
 have j1 : d ≤ 7 → ∀ b : Bool, Ev (fun k => impl_typeForm.j1 k p d b x.f0 x.f1 x.f2) (!b && (!(decide (x.f0 = 3) && !(labB x.f1)) && ((decide (x.f0 = 3) || decide (x.f1.length = 0)) && tfTS (p || (decide (x.f0 = 3) || decide (x.f0 = 4))) (d + 1) x.f2))) := by
  intro hd7 b
  refine Ev.up ?_
  simp only [impl_typeForm.j1]
  refine Ev.cases (fun h => Ev.const (by rw [h]; rfl)) (fun h => ?_)
  rw [Bool.eq_false_iff.2 h, Bool.not_false, Bool.true_and]
  refine Ev.cases (fun h3 => ?_) (fun h3 => ?_)
  ·refine Ev.bind (impl_labelsOk_ev x.f1 hs.p1.1 hs.p1.2) ?_
   have := j2 hd7 (!(labB x.f1))
   rw [decide_eq_true h3] at this ⊢
   rw [Bool.true_and]
   exact this
  ·have := j2 hd7 false
   rw [decide_eq_false h3] at this ⊢
   rw [Bool.false_and]
   exact this
 have j0 : ∀ b : Bool, (b = false → d ≤ 7) → Ev (fun k => impl_typeForm.j0 k p d b x.f0 x.f1 x.f2) (!b && (!(decide (x.f0 = 5) && p) && (!(decide (x.f0 = 3) && !(labB x.f1)) && ((decide (x.f0 = 3) || decide (x.f1.length = 0)) && tfTS (p || (decide (x.f0 = 3) || decide (x.f0 = 4))) (d + 1) x.f2)))) := by
  intro b hb
  refine Ev.up ?_
  simp only [impl_typeForm.j0]
  refine Ev.cases (fun h => Ev.const (by rw [h]; rfl)) (fun h => ?_)
  have hd7 := hb (Bool.eq_false_iff.2 h)
  rw [Bool.eq_false_iff.2 h, Bool.not_false, Bool.true_and]
  refine Ev.cases (fun h5 => ?_) (fun h5 => ?_)
  ·rw [decide_eq_true h5, Bool.true_and]; exact j1 hd7 p
  ·rw [decide_eq_false h5, Bool.false_and]; exact j1 hd7 false
 rw [tfT_eq]
 unfold topI
 refine Ev.up ?_
 simp only [impl_typeForm.f]
 refine Ev.pos (by omega) (Ev.pos (by omega) (Ev.pos (by omega) (Ev.pos (by omega) ?_)))
 have no : ¬ (1 ≤ x.f0 ∧ x.f0 ≤ 5 ∧ d ≤ 7) → ∀ A B C : Bool, Ev (fun k => impl_typeForm.j0 k p d true x.f0 x.f1 x.f2) (((decide (1 ≤ x.f0 ∧ x.f0 ≤ 5 ∧ d ≤ 7) && A) && B) && C) := by
  intro h A B C
  rw [decide_eq_false h]
  exact j0 true (fun h => by cases h)
 refine Ev.cases (fun h1 => no (by omega) _ _ _) (fun h1 => ?_)
 refine Ev.cases (fun h2 => no (by omega) _ _ _) (fun h2 => ?_)
 refine Ev.cases (fun h3 => no (by omega) _ _ _) (fun h3 => ?_)
 rw [decide_eq_true (by omega : 1 ≤ x.f0 ∧ x.f0 ≤ 5 ∧ d ≤ 7), Bool.true_and]
 refine Ev.eq (j0 _ (fun _ => by omega)) ?_
 have e : ((x.f2.length : Int) != imPut (imPut (imPut im0 4 1) 5 2) 3 (x.f1.length : Int) x.f0) = !(decide ((x.f2.length : Int) = imPut (imPut (imPut im0 4 1) 5 2) 3 (x.f1.length : Int) x.f0)) := rfl
 rw [e, Bool.not_not]
 simp only [Bool.and_assoc]
theorem spec_l3Left_ev : ∀ x : S27, SmType x → ∀ n : Int, 0 ≤ n → n ≤ 1048577 → ∃ r, Ev (fun k => spec_l3Left.f k x.f0 x.f1 x.f2 n) r ∧ ((ndType x : Int) ≤ n → r = n - ndType x) ∧ (n < ndType x → r < 0) ∧ r ≤ 1048577 := by
 refine indTypeI fun x ih hs n hn hn2 => ?_
 rw [ndType_eq]
 have loop : ∀ m i s, i + m = x.f2.length → s ≤ 1048577 → ∃ r, Ev (fun k => spec_l3Left.l0 k s (i : Int) x.f0 x.f1 x.f2) r ∧ (0 ≤ s → (((((x.f2.drop i).map ndType).sum : Nat) : Int) ≤ s → r = s - (((x.f2.drop i).map ndType).sum : Nat)) ∧ (s < (((x.f2.drop i).map ndType).sum : Nat) → r < 0)) ∧ (s < 0 → r < 0) ∧ r ≤ 1048577 := by
  intro m
  induction m with
  | zero =>
   intro i s hi hs1
   refine ⟨s, Ev.up ?_, fun h => ?_, id, hs1⟩
   ·simp only [spec_l3Left.l0]; exact Ev.neg (by omega) (Ev.now _)
   ·rw [List.drop_of_length_le (by omega)]; simp <;> omega
  | succ m ihm =>
   intro i s hi hs1
   have hlt : i < x.f2.length := by omega
   have e : x.f2.getD i z27 = x.f2[i] := by simp [List.getD_eq_getElem?_getD, hlt]
   by_cases h0 : 0 ≤ s
   case neg =>
    refine ⟨s, Ev.up ?_, fun h => absurd h h0, id, hs1⟩
    simp only [spec_l3Left.l0]
    exact Ev.pos (by omega) (Ev.neg (by omega) (Ev.now _))
   obtain ⟨r, h1, h2, h3, h4⟩ := ih (x.f2.getD i z27) (mem_getD x.f2 z27 i hlt) (hs.p2.2 _ (mem_getD x.f2 z27 i hlt)) s h0 hs1
   obtain ⟨u, g1, g2, g3, g4⟩ := ihm (i + 1) r (by omega) h4
   refine ⟨u, Ev.up ?_, fun _ => ?_, fun h => by omega, g4⟩
   ·simp only [spec_l3Left.l0, w1' hlt hs.p2.1]
    exact Ev.pos (by omega) (Ev.pos h0 (Ev.pos (by omega) (Ev.bind h1 g1)))
   ·rw [List.drop_eq_getElem_cons hlt, List.map_cons, List.sum_cons, ← e]
    by_cases hc : (ndType (x.f2.getD i z27) : Int) ≤ s
    ·have := h2 hc
     have := g2 (by omega)
     omega
    have := h3 (by omega)
    have := g3 (by omega)
    omega
 obtain ⟨r, h1, h2, h3, h4⟩ := loop x.f2.length 0 (n - 1) (by omega) (by omega)
 refine ⟨r, Ev.up ?_, ?_, ?_, h4⟩
 ·simp only [spec_l3Left.f]
  rw [w64 (a := n - 1) (by omega) (by omega)]
  exact h1
 ·intro h; have := h2 (by omega); simp at this; omega
 ·intro h
  by_cases h0 : 0 ≤ n - 1
  case neg =>
   exact h3 (by omega)
  have := h2 h0; simp at this; omega

end Go.Proofs.Ytaakdfbfgabdbaa.Pt
end
section
namespace Go.Proofs.Ytaakdfbfgabdbaa.Pt
open Go.RowKit Go.Proofs.YtaakdfbfgabdbaaW.PrintWords Go.Proofs.YtaakdfbfgabdbaaW.PrintLast Go.Proofs.Ytaakdfbfgabdbaa.Pl Go.Proofs.Ytaakdfbfgabdbaa.Ext
set_option linter.unusedVariables false
set_option linter.unusedSimpArgs false
theorem mx_nat (a b : Nat) : mx (a : Int) (b : Int) = ((max a b : Nat) : Int) := by rw [mx_eq]; split <;> omega
theorem fold_mx : ∀ (xs : List S27) (s : Nat), xs.foldl (fun (s : Int) y => mx s (depT y : Int)) (s : Int) = ((max s (depTS xs) : Nat) : Int)
  | [], s => by simp [depTS]
  | x :: r, s => by
    rw [List.foldl_cons, mx_nat, fold_mx r]
    simp only [depTS]
    congr 1
    omega
theorem spec_DepthOfType_ev : ∀ x : S27, SmType x → ndType x ≤ 1048577 → Ev (fun k => spec_DepthOfType.f k x.f0 x.f1 x.f2) (depT x : Int) := by
  refine indTypeI fun x ih hs hn => ?_
  have hd := depT_nd x
  rw [ndType_eq] at hn
  refine Ev.up ?_
  simp only [spec_DepthOfType.f]
  refine Ev.eq (fold_loop x.f2.length (fun k i => spec_DepthOfType.f k (rd_T27 x.f2 (i : Int)).f0 (rd_T27 x.f2 (i : Int)).f1 (rd_T27 x.f2 (i : Int)).f2) (fun k s i => spec_DepthOfType.l0 k s (i : Int) x.f0 x.f1 x.f2) mx (fun i => (depT (x.f2.getD i z27) : Int)) (fun s => wrap64 (s + 1))
    (fun k s i hi => by simp only [spec_DepthOfType.l0, spec_l1Max_eq, Option.bind_some]; rw [if_pos (by omega), if_pos (by omega), w1' hi hs.p2.1])
    (fun k s => by simp only [spec_DepthOfType.l0]; rw [if_neg (by omega)])
    (fun i hi => ih (x.f2.getD i z27) (mem_getD x.f2 z27 i hi) (hs.p2.2 _ (mem_getD x.f2 z27 i hi)) (by have := sum_le_of_mem ndType (mem_getD x.f2 z27 i hi); omega)) x.f2.length 0 0 (by omega)) ?_
  rw [foldl_range (fun (s : Int) y => mx s (depT y : Int)) z27 x.f2 0]
  have e := fold_mx x.f2 0
  rw [depT_eq] at hd ⊢
  rw [ndType_eq] at hd
  rw [show (0 : Int) = ((0 : Nat) : Int) from rfl, e, w64 (by omega) (by omega)]
  omega
/-- Is a type valid? -/
def vT (x : S27) : Bool := decide (ndType x ≤ 24) && (decide (depT x ≤ 7) && formT x)
theorem spec_IsValidType_ev (x : S27) (hs : SmType x) (hn : ndType x ≤ 1048577) : Ev (fun k => spec_IsValidType.f k x.f0 x.f1 x.f2) (vT x) := by
  obtain ⟨r, h1, h2, h3, _⟩ := spec_l3Left_ev x hs 24 (by decide) (by decide)
  simp only [spec_IsValidType.f, vT]
  refine Ev.bind h1 ?_
  by_cases hc : ndType x ≤ 24
  · have := h2 (by omega)
    rw [decide_eq_true hc, Bool.true_and]
    refine Ev.pos (by omega) (Ev.bind (spec_DepthOfType_ev x hs hn) ?_)
    refine Ev.cases (fun hd => ?_) (fun hd => ?_)
    · rw [decide_eq_true (by omega), Bool.true_and]
      exact Ev.bind (spec_l3Form_ev x hs) (Ev.now _)
    · rw [decide_eq_false (by omega)]; exact Ev.now _
  · have := h3 (by omega)
    rw [decide_eq_false hc]
    exact Ev.neg (by omega) (Ev.now _)
theorem impl_IsValidType_ev (x : S27) (hs : SmType x) (hn : ndType x ≤ 1048577) : Ev (fun k => impl_IsValidType.f k x.f0 x.f1 x.f2) (vT x) := by
  simp only [impl_IsValidType.f, vT]
  refine Ev.bind (impl_typeForm_ev x hs false 1 (by decide) (by decide)) ?_
  have e := tfT_iff x false 1
  refine Ev.cases (fun h => ?_) (fun h => ?_)
  · obtain ⟨h1, _, h2⟩ := e.1 h
    refine Ev.bind (impl_SizeOfType_ev x hs hn) (Ev.const ?_)
    rw [h1, decide_eq_true (by omega : depT x ≤ 7)]
    simp
    omega
  · refine Ev.const ?_
    cases hf : formT x
    · simp
    · have : ¬ depT x ≤ 7 := fun hd => h (e.2 ⟨hf, fun hp => absurd hp (by decide), by omega⟩)
      rw [decide_eq_false this]; simp
/-- Is a type one of data? -/
def vD (x : S27) : Bool := vT x && !(hasT 5 x)
theorem spec_IsData_ev (x : S27) (hs : SmType x) (hn : ndType x ≤ 1048577) : Ev (fun k => spec_IsData.f k x.f0 x.f1 x.f2) (vD x) := by
  simp only [spec_IsData.f, vD]
  refine Ev.bind (spec_IsValidType_ev x hs hn) ?_
  refine Ev.cases (fun h => ?_) (fun h => ?_)
  · rw [h, Bool.true_and]
    exact Ev.bind (spec_l3Has_ev 5 x hs) (Ev.now _)
  · rw [Bool.eq_false_iff.2 h]; exact Ev.now _
theorem impl_IsData_ev (x : S27) (hs : SmType x) (hn : ndType x ≤ 1048577) : Ev (fun k => impl_IsData.f k x.f0 x.f1 x.f2) (vD x) := by
  simp only [impl_IsData.f, vD, vT]
  refine Ev.bind (impl_typeForm_ev x hs true 1 (by decide) (by decide)) ?_
  have e := tfT_iff x true 1
  refine Ev.cases (fun h => ?_) (fun h => ?_)
  · obtain ⟨h1, h3, h2⟩ := e.1 h
    refine Ev.bind (impl_SizeOfType_ev x hs hn) (Ev.const ?_)
    rw [h1, decide_eq_true (by omega : depT x ≤ 7), h3 rfl]
    simp
    omega
  · refine Ev.const ?_
    cases hf : formT x
    · simp
    · cases hh : hasT 5 x
      · have : ¬ depT x ≤ 7 := fun hd => h (e.2 ⟨hf, fun _ => hh, by omega⟩)
        rw [decide_eq_false this]; simp
      · simp
/-- Is a type that of a row? -/
def vR (x : S27) : Bool := vT x && (decide (x.f0 = 3) && x.f2.all (fun y => decide (y.f0 = 1) || y.f0 == 2))
theorem spec_l3Base_eq (a : Int) (l : List ByteArray) (r : List S27) : spec_l3Base.f a l r = some (decide (a = 1) || a == 2) := by
  unfold spec_l3Base.f; split
  · rename_i h; simp [h]
  · rename_i h; simp [h]
theorem spec_IsRow_ev (x : S27) (hs : SmType x) (hn : ndType x ≤ 1048577) : Ev (fun k => spec_IsRow.f k x.f0 x.f1 x.f2) (vR x) := by
  have no : Ev (fun k => spec_IsRow.j0 k true x.f0 x.f1 x.f2) false := by
    refine Ev.up ?_
    simp only [spec_IsRow.j0]
    exact Ev.pos (by simp) (Ev.now _)
  simp only [spec_IsRow.f, vR]
  refine Ev.bind (spec_IsValidType_ev x hs hn) ?_
  refine Ev.cases (fun h => ?_) (fun h => by rw [Bool.eq_false_iff.2 h]; exact no)
  rw [h, Bool.true_and]
  by_cases h3 : x.f0 = 3
  · rw [show (x.f0 != 3) = false from by simp [h3], decide_eq_true h3, Bool.true_and]
    refine Ev.up ?_
    simp only [spec_IsRow.j0]
    refine Ev.neg (by simp) ?_
    refine Ev.eq (all_ev x.f2 z27 (fun y => decide (y.f0 = 1) || y.f0 == 2) true (fun k i => spec_IsRow.l0 k (i : Int) x.f0 x.f1 x.f2) (fun k i => spec_l3Base.f (rd_T27 x.f2 (i : Int)).f0 (rd_T27 x.f2 (i : Int)).f1 (rd_T27 x.f2 (i : Int)).f2) (fun k i hi => ?_) ?_ (fun i hi => ?_)) (Bool.and_true _)
    · simp only [spec_IsRow.l0]
      rw [if_pos (by omega), if_pos (by omega), w1' hi hs.p2.1]
    · refine Ev.up ?_
      simp only [spec_IsRow.l0]
      exact Ev.neg (by omega) (Ev.now _)
    · simp only [spec_l3Base_eq]
      exact Ev.now _
  · rw [show (x.f0 != 3) = true from by simpa using h3, decide_eq_false h3]
    exact no
theorem impl_isPlain_eq (a : Int) (l : List ByteArray) (r : List S27) : impl_isPlain.f a l r = some (decide (a = 1) || a == 2) := by
  unfold impl_isPlain.f; split
  · rename_i h; simp [h]
  · rename_i h; simp [h]
theorem IndexFunc_row (xs : List S27) (hx : xs.length ≤ 1048576) : ∃ r : Int, Ev (fun k => slices_IndexFunc_Type_of_IsRow_1.l0 k xs (xs.length : Int) 0) r ∧ decide (r ≥ 0) = !(xs.all (fun y => decide (y.f0 = 1) || y.f0 == 2)) := by
  suffices h : ∀ m i, i + m = xs.length → ∃ r : Int, Ev (fun k => slices_IndexFunc_Type_of_IsRow_1.l0 k xs (xs.length : Int) (i : Int)) r ∧ decide (r ≥ 0) = !((xs.drop i).all (fun y => decide (y.f0 = 1) || y.f0 == 2)) from by simpa using h xs.length 0 (by omega)
  intro m
  induction m with
  | zero =>
    intro i hi
    refine ⟨-1, Ev.up ?_, by rw [List.drop_of_length_le (by omega)]; rfl⟩
    simp only [slices_IndexFunc_Type_of_IsRow_1.l0]
    exact Ev.neg (by omega) (Ev.now _)
  | succ m ih =>
    intro i hi
    have hlt : i < xs.length := by omega
    have e : rd_T27 xs (i : Int) = xs[i] := by
      show xs.getD i z27 = _
      simp [List.getD_eq_getElem?_getD, hlt]
    rw [List.drop_eq_getElem_cons hlt, List.all_cons]
    cases hp : (decide (xs[i].f0 = 1) || xs[i].f0 == 2)
    · refine ⟨(i : Int), Ev.up ?_, by simp⟩
      simp only [slices_IndexFunc_Type_of_IsRow_1.l0, impl_IsRow_1.f, impl_isPlain_eq, Option.bind_some, e, hp]
      exact Ev.pos (by omega) (Ev.pos (by omega) (Ev.pos (by omega) (Ev.pos (by simp) (Ev.now _))))
    · obtain ⟨r, h1, h2⟩ := ih (i + 1) (by omega)
      refine ⟨r, Ev.up ?_, by rw [h2]; simp⟩
      simp only [slices_IndexFunc_Type_of_IsRow_1.l0, impl_IsRow_1.f, impl_isPlain_eq, Option.bind_some, e, hp, w1' hlt hx]
      exact Ev.pos (by omega) (Ev.pos (by omega) (Ev.pos (by omega) (Ev.neg (by simp) h1)))
theorem impl_IsRow_ev (x : S27) (hs : SmType x) (hn : ndType x ≤ 1048577) : Ev (fun k => impl_IsRow.f k x.f0 x.f1 x.f2) (vR x) := by
  simp only [impl_IsRow.f, vR, slices_ContainsFunc_Type_of_IsRow_1.f, slices_IndexFunc_Type_of_IsRow_1.f]
  refine Ev.bind (impl_IsValidType_ev x hs hn) ?_
  refine Ev.cases (fun h => ?_) (fun h => by rw [Bool.eq_false_iff.2 h]; exact Ev.now _)
  rw [h, Bool.true_and]
  refine Ev.cases (fun h3 => ?_) (fun h3 => by rw [decide_eq_false h3]; exact Ev.now _)
  rw [decide_eq_true h3, Bool.true_and]
  obtain ⟨r, g1, g2⟩ := IndexFunc_row x.f2 hs.p2.1
  refine Ev.bind (Ev.bind g1 (Ev.now _)) (Ev.const ?_)
  rw [g2, Bool.not_not]
end Go.Proofs.Ytaakdfbfgabdbaa.Pt
end
section
namespace Go.Proofs.Ytaakdfbfgabdbaa.Pt
open Go.RowKit Go.Proofs.YtaakdfbfgabdbaaW.PrintWords Go.Proofs.YtaakdfbfgabdbaaW.PrintLast Go.Proofs.Ytaakdfbfgabdbaa.Pl Go.Proofs.Ytaakdfbfgabdbaa.Ext
set_option linter.unusedVariables false
set_option linter.unusedSimpArgs false
theorem Index_at (xs : List ByteArray) (hx : xs.length ≤ 1048576) (s : ByteArray) : ∃ r : Int, Ev (fun k => spec_IndexOf.f k xs s) r ∧ Ev (fun k => slices_Index_string_string.f k xs s) r ∧ (r = -1 ∨ (0 ≤ r ∧ r < xs.length)) := by
 suffices h : ∀ m i, i + m = xs.length → ∃ r : Int, Ev (fun k => spec_IndexOf.l0 k xs s (i : Int)) r ∧ Ev (fun k => slices_Index_string_string.l0 k xs s (xs.length : Int) (i : Int)) r ∧ (r = -1 ∨ (0 ≤ r ∧ r < xs.length)) from h xs.length 0 (by omega)
 intro m
 induction m with
 | zero =>
  intro i hi
  refine ⟨-1, Ev.up ?_, Ev.up ?_, .inl rfl⟩
  ·simp only [spec_IndexOf.l0]; exact Ev.neg (by omega) (Ev.now _)
  ·simp only [slices_Index_string_string.l0]; exact Ev.neg (by omega) (Ev.now _)
 | succ m ih =>
  intro i hi
  obtain ⟨r, h1, h2, h3⟩ := ih (i + 1) (by omega)
  by_cases hc : (rdOf ByteArray.empty xs (i : Int)).toList = s.toList
  ·refine ⟨(i : Int), Ev.up ?_, Ev.up ?_, .inr ⟨by omega, by omega⟩⟩
   ·simp only [spec_IndexOf.l0]; exact Ev.pos (by omega) (Ev.pos (by omega) (Ev.pos hc (Ev.now _)))
   ·simp only [slices_Index_string_string.l0]; exact Ev.pos (by omega) (Ev.pos (by omega) (Ev.pos (by omega) (Ev.pos hc.symm (Ev.now _))))
  refine ⟨r, Ev.up ?_, Ev.up ?_, h3⟩
  ·simp only [spec_IndexOf.l0]
   refine Ev.pos (by omega) (Ev.pos (by omega) (Ev.neg hc ?_))
   rw [w1' (n := xs.length) (by omega) hx]; exact h1
  ·simp only [slices_Index_string_string.l0]
   refine Ev.pos (by omega) (Ev.pos (by omega) (Ev.pos (by omega) (Ev.neg (fun h => hc h.symm) ?_)))
   rw [w1' (n := xs.length) (by omega) hx]; exact h2
theorem vT_len (x : S27) (h : vT x = true) (h3 : x.f0 = 3) : x.f2.length = x.f1.length := by
 unfold vT at h
 simp only [Bool.and_eq_true] at h
 have hf := h.2
 (try replace hf := hf.2)
 rw [formT_eq] at hf
 simp only [Bool.and_eq_true] at hf
 have ht := hf.2
 unfold topT at ht
 rw [if_pos h3] at ht
 simp only [Bool.and_eq_true, decide_eq_true_eq] at ht
 omega
theorem FieldType_same (x : S27) (hs : SmType x) (hn : ndType x ≤ 1048577) (s : ByteArray) : ∃ (r : S27) (b : Bool), Ev (fun k => spec_FieldType.f k x.f0 x.f1 x.f2 s) (r.f0, r.f1, r.f2, b) ∧ Ev (fun k => impl_FieldType.f k x.f0 x.f1 x.f2 s) (r.f0, r.f1, r.f2, b) ∧ SmType r := by
 obtain ⟨t, h1, h2, h3⟩ := Index_at x.f1 hs.p1.1 s
 have v1 := spec_IsValidType_ev x hs hn
 have v2 := impl_IsValidType_ev x hs hn
 have hz : SmType (⟨0, [], []⟩ : S27) := SmType.mk (by decide) ⟨by simp, by simp⟩ (by simp) (by simp)
 by_cases hv : vT x = true
 case neg =>
  refine ⟨⟨0, [], []⟩, false, ?_, ?_, hz⟩
  ·simp only [spec_FieldType.f]
   exact Ev.bind h1 (Ev.bind v1 (Ev.neg hv (Ev.now _)))
  ·simp only [impl_FieldType.f]
   exact Ev.bind h2 (Ev.bind v2 (Ev.neg hv (Ev.now _)))
 by_cases hk : x.f0 = 3
 case neg =>
  refine ⟨⟨0, [], []⟩, false, ?_, ?_, hz⟩
  ·simp only [spec_FieldType.f]
   exact Ev.bind h1 (Ev.bind v1 (Ev.pos hv (Ev.neg hk (Ev.now _))))
  ·simp only [impl_FieldType.f]
   exact Ev.bind h2 (Ev.bind v2 (Ev.pos hv (Ev.neg hk (Ev.now _))))
 by_cases ht : t < 0
 ·refine ⟨⟨0, [], []⟩, false, ?_, ?_, hz⟩
  ·simp only [spec_FieldType.f]
   exact Ev.bind h1 (Ev.bind v1 (Ev.pos hv (Ev.pos hk (Ev.pos ht (Ev.now _)))))
  ·simp only [impl_FieldType.f]
   exact Ev.bind h2 (Ev.bind v2 (Ev.pos hv (Ev.pos hk (Ev.pos ht (Ev.now _)))))
 obtain ⟨n, rfl⟩ : ∃ n : Nat, t = (n : Int) := ⟨t.toNat, by omega⟩
 have hl := vT_len x hv hk
 have hlt : n < x.f2.length := by omega
 have hm := mem_getD x.f2 z27 n hlt
 have hsy := hs.p2.2 _ hm
 refine ⟨x.f2.getD n z27, true, ?_, ?_, hsy⟩
 ·simp only [spec_FieldType.f]
  exact Ev.bind h1 (Ev.bind v1 (Ev.pos hv (Ev.pos hk (Ev.neg ht (Ev.pos (by omega) (Ev.pos (by omega) (Ev.bind (spec_l3Copy_ev _ hsy) (Ev.now _))))))))
 ·simp only [impl_FieldType.f]
  exact Ev.bind h2 (Ev.bind v2 (Ev.pos hv (Ev.pos hk (Ev.neg ht (Ev.pos (by omega) (Ev.pos (by omega) (Ev.bind (impl_cloneType_ev _ hsy) (Ev.now _))))))))

end Go.Proofs.Ytaakdfbfgabdbaa.Pt
end
section
namespace Go.Proofs.Ytaakdfbfgabdbaa.Pt
open Go.RowKit Go.Proofs.YtaakdfbfgabdbaaW.PrintWords Go.Proofs.YtaakdfbfgabdbaaW.PrintLast Go.Proofs.Ytaakdfbfgabdbaa.Pl Go.Proofs.Ytaakdfbfgabdbaa.Ext
set_option linter.unusedVariables false
set_option linter.unusedSimpArgs false
theorem leafT (y : S27) (hf : formT y = true) (hk : y.f0 = 1 ∨ y.f0 = 2) : y.f2 = [] := by
  rw [formT_eq] at hf
  simp only [Bool.and_eq_true] at hf
  have ht := hf.2
  unfold topT at ht
  rw [if_neg (by omega), if_neg (by omega)] at ht
  simp only [Bool.and_eq_true, decide_eq_true_eq] at ht
  have h1 : wantT y.f0 = 0 := by unfold wantT; rw [if_pos hk]
  rw [h1] at ht
  exact List.length_eq_zero_iff.1 (by omega)
theorem vR_row (x : S27) (h : vR x = true) : bgT x = 0 ∧ vD x = true := by
  unfold vR at h
  simp only [Bool.and_eq_true, decide_eq_true_eq] at h
  obtain ⟨hv, h3, ha⟩ := h
  have hf := hv
  unfold vT at hf
  simp only [Bool.and_eq_true] at hf
  have hf2 := hf.2.2
  rw [formT_eq] at hf2
  simp only [Bool.and_eq_true] at hf2
  have hfs := hf2.1
  rw [formTS_all] at hfs
  have hleaf : ∀ y ∈ x.f2, (y.f0 = 1 ∨ y.f0 = 2) ∧ y.f2 = [] := by
    intro y hy
    have h1 := List.all_eq_true.1 ha y hy
    have hk : y.f0 = 1 ∨ y.f0 = 2 := by simpa using h1
    exact ⟨hk, leafT y (List.all_eq_true.1 hfs y hy) hk⟩
  constructor
  · rw [bgT_eq, if_neg (by omega)]
    have hL : ∀ l : List S27, (∀ y ∈ l, bgT y = 0) → (l.map bgT).sum = 0 := by
      intro l
      induction l with
      | nil => intro _; rfl
      | cons y r ih =>
        intro h
        rw [List.map_cons, List.sum_cons, h y (List.mem_cons_self ..), ih (fun z hz => h z (List.mem_cons_of_mem _ hz))]
    rw [hL x.f2 (fun y hy => by
      obtain ⟨hk, he⟩ := hleaf y hy
      rw [bgT_eq, he, if_neg (by omega)]
      rfl)]
  · unfold vD
    rw [hv, hasT_eq, hasTS_any]
    have h5 : x.f2.any (hasT 5) = false := by
      rw [List.any_eq_false]
      intro y hy
      obtain ⟨hk, he⟩ := hleaf y hy
      rw [hasT_eq, he]
      simp only [hasTS, Bool.false_or, beq_iff_eq]
      omega
    rw [h5, h3]
    rfl

end Go.Proofs.Ytaakdfbfgabdbaa.Pt
end
