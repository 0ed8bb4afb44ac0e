/- Is a value right: the program's and the reference's tests come to the same. No condition beyond the sizes named. -/
import Derived.Test.YtppgalehaiagaaaZHasTypePx0M
import Derived.Test.YtppgalehaiagaaaZHasTypePx27
import Derived.Test.YtppgalehaiagaaaZHasTypePlM
import Derived.Test.YtppgalehaiagaaaZHasTypeWLastM
import Derived.Test.YtppgalehaiagaaaZHasTypePx28
import Derived.Test.YtppgalehaiagaaaZHasTypePx29
import Derived.Test.YtppgalehaiagaaaZHasTypePx30
import Derived.Test.YtppgalehaiagaaaZHasTypePx31
import Derived.Test.YtppgalehaiagaaaZHasTypePx32
import Derived.Test.YtppgalehaiagaaaZHasTypePx33
import Derived.Test.YtppgalehaiagaaaZHasTypeWWords
import Derived.Deep.Slices
import Derived.ChangeArms
import Derived.DataReads
section
namespace Go.Proofs.Ytppgalehaiagaaa.Px
open Go.RowKit Go.Proofs.YtppgalehaiagaaaW.PrintWords Go.Proofs.YtppgalehaiagaaaW.PrintLast Go.Proofs.Ytppgalehaiagaaa.Pl Go.Proofs.Ytppgalehaiagaaa.Ext
set_option linter.unusedVariables false
set_option linter.unusedSimpArgs false
theorem spec_l5Left_ev : ∀ x : S47, SmValue x → ∀ n : Int, 0 ≤ n → n ≤ 1048577 → ∃ r, Ev (fun k => spec_l5Left.f k x.f0 x.f1 x.f2 x.f3 n) r ∧ ((ndValue x : Int) ≤ n → r = n - ndValue x) ∧ (n < ndValue x → r < 0) ∧ r ≤ 1048577 := by
  refine indValueI fun x ih hs n hn hn2 => ?_
  rw [ndValue_eq]
  have loop : ∀ m i s, i + m = x.f3.length → s ≤ 1048577 → ∃ r, Ev (fun k => spec_l5Left.l0 k s (i : Int) x.f0 x.f1 x.f2 x.f3) r ∧ (0 ≤ s → (((((x.f3.drop i).map ndValue).sum : Nat) : Int) ≤ s → r = s - (((x.f3.drop i).map ndValue).sum : Nat)) ∧ (s < (((x.f3.drop i).map ndValue).sum : Nat) → r < 0)) ∧ (s < 0 → r < 0) ∧ r ≤ 1048577 := by
    intro m
    induction m with
    | zero =>
      intro i s hi hs1
      refine ⟨s, Ev.up ?_, fun h => ?_, id, hs1⟩
      · simp only [spec_l5Left.l0]; exact Ev.neg (by omega) (Ev.now _)
      · rw [List.drop_of_length_le (by omega)]; simp <;> omega
    | succ m ihm =>
      intro i s hi hs1
      have hlt : i < x.f3.length := by omega
      have e : x.f3.getD i z47 = x.f3[i] := by simp [List.getD_eq_getElem?_getD, hlt]
      by_cases h0 : 0 ≤ s
      · obtain ⟨r, h1, h2, h3, h4⟩ := ih (x.f3.getD i z47) (mem_getD x.f3 z47 i hlt) (hs.p3.2 _ (mem_getD x.f3 z47 i hlt)) s h0 hs1
        obtain ⟨u, g1, g2, g3, g4⟩ := ihm (i + 1) r (by omega) h4
        refine ⟨u, Ev.up ?_, fun _ => ?_, fun h => by omega, g4⟩
        · simp only [spec_l5Left.l0, w1' hlt hs.p3.1]
          exact Ev.pos (by omega) (Ev.pos h0 (Ev.pos (by omega) (Ev.bind h1 g1)))
        · rw [List.drop_eq_getElem_cons hlt, List.map_cons, List.sum_cons, ← e]
          by_cases hc : (ndValue (x.f3.getD i z47) : Int) ≤ s
          · have := h2 hc
            have := g2 (by omega)
            omega
          · have := h3 (by omega)
            have := g3 (by omega)
            omega
      · refine ⟨s, Ev.up ?_, fun h => absurd h h0, id, hs1⟩
        simp only [spec_l5Left.l0]
        exact Ev.pos (by omega) (Ev.neg (by omega) (Ev.now _))
  obtain ⟨r, h1, h2, h3, h4⟩ := loop x.f3.length 0 (n - 1) (by omega) (by omega)
  refine ⟨r, Ev.up ?_, ?_, ?_, h4⟩
  · simp only [spec_l5Left.f]
    rw [w64 (a := n - 1) (by omega) (by omega)]
    exact h1
  · intro h; have := h2 (by omega); simp at this; omega
  · intro h
    by_cases h0 : 0 ≤ n - 1
    · have := h2 h0; simp at this; omega
    · exact h3 (by omega)

end Go.Proofs.Ytppgalehaiagaaa.Px
end
section
namespace Go.Proofs.Ytppgalehaiagaaa.Px
open Go.RowKit Go.Proofs.YtppgalehaiagaaaW.PrintWords Go.Proofs.YtppgalehaiagaaaW.PrintLast Go.Proofs.Ytppgalehaiagaaa.Pl Go.Proofs.Ytppgalehaiagaaa.Ext
set_option linter.unusedVariables false
set_option linter.unusedSimpArgs false
/-- A type that is right and has no functions. -/
def dT (t : S33) : Bool := formT t && !(hasT 5 t)
theorem dT_cases (t : S33) (h : dT t = true) : (t.f0 = 1 ∨ t.f0 = 2 ∨ t.f0 = 3 ∨ t.f0 = 4) ∧ (∀ y ∈ t.f2, dT y = true) ∧ (t.f0 = 4 → t.f1 = [] ∧ t.f2.length = 1) := by
  simp only [dT, Bool.and_eq_true, Bool.not_eq_true'] at h
  obtain ⟨hf, hh⟩ := h
  rw [formT_eq, Bool.and_eq_true, formTS_all, List.all_eq_true] at hf
  rw [hasT_eq, Bool.or_eq_false_iff, hasTS_any] at hh
  obtain ⟨h1, h2⟩ := hf
  obtain ⟨h3, h4⟩ := hh
  have h5 : ¬ t.f0 = 5 := by simpa using h4
  refine ⟨?_, fun y hy => ?_, fun e4 => ?_⟩
  · unfold topT at h2
    by_cases e3 : t.f0 = 3
    · omega
    rw [if_neg e3] at h2
    by_cases e4 : t.f0 = 4
    · omega
    rw [if_neg (fun h => e4 h.1), Bool.and_eq_true] at h2
    have hw := of_decide_eq_true h2.2
    unfold wantT at hw
    by_cases e12 : t.f0 = 1 ∨ t.f0 = 2
    · omega
    · rw [if_neg e12, if_neg e4, if_neg h5] at hw; omega
  · simp only [dT, Bool.and_eq_true, Bool.not_eq_true']
    refine ⟨h1 y hy, ?_⟩
    rw [Bool.eq_false_iff]
    intro hc
    rw [Bool.eq_false_iff] at h3
    exact h3 (List.any_eq_true.2 ⟨y, hy, hc⟩)
  · unfold topT at h2
    rw [if_neg (by omega)] at h2
    split at h2
    · cases h2
    · rw [Bool.and_eq_true] at h2
      have hl := of_decide_eq_true h2.1
      have hw := of_decide_eq_true h2.2
      unfold wantT at hw
      rw [if_neg (by omega), if_pos e4] at hw
      exact ⟨List.length_eq_zero_iff.1 (by omega), by omega⟩
theorem vD_dT (t : S33) (h : vD t = true) : dT t = true := by
  simp only [vD, vT, Bool.and_eq_true] at h
  simp only [dT, Bool.and_eq_true]
  exact ⟨h.1.2.2, h.2⟩
theorem Texts_nil (xs : List ByteArray) : Ev (fun k => spec_l3Texts.f k xs []) (decide (xs.length = 0)) := by
  simp only [spec_l3Texts.f]
  by_cases h : xs.length = 0
  · rw [decide_eq_true h]
    refine Ev.pos (by simpa using h) (Ev.up ?_)
    simp only [spec_l3Texts.l0]
    exact Ev.neg (by omega) (Ev.now _)
  · rw [decide_eq_false h]
    exact Ev.neg (by simpa using h) (Ev.now _)
theorem fits_same : ∀ x : S47, ∀ t : S33, SmValue x → dT t = true → Same (fun k => spec_l5Has.f k x.f0 x.f1 x.f2 x.f3 t.f0 t.f1 t.f2) (fun k => impl_fits.f k x.f0 x.f1 x.f2 x.f3 t.f0 t.f1 t.f2) := by
  refine indValueI fun x ih t hs ht => ?_
  obtain ⟨hk, hy, h4⟩ := dT_cases t ht
  have spno : Ev (fun k => spec_l5Has.j1 k true x.f0 x.f1 x.f2 x.f3 t.f0 t.f1 t.f2) false := by
    refine Ev.up ?_
    simp only [spec_l5Has.j1]
    exact Ev.pos (by simp) (Ev.now _)
  have spno0 : Ev (fun k => spec_l5Has.j0 k true x.f0 x.f1 x.f2 x.f3 t.f0 t.f1 t.f2) false := by
    refine Ev.up ?_
    simp only [spec_l5Has.j0]
    exact Ev.pos (by simp) (Ev.now _)
  have imno : Ev (fun k => impl_fits.j0 k true x.f3 t.f2) false := by
    refine Ev.up ?_
    simp only [impl_fits.j0]
    exact Ev.pos (by simp) (Ev.now _)
  refine Same.up ?_
  simp only [spec_l5Has.f, impl_fits.f]
  by_cases e1 : t.f0 = 1
  · refine Same.pos e1 e1 (Same.ite Iff.rfl (fun a1 => ?_) (fun _ => Same.ret rfl))
    simp only [impl_plainOk.f]
    by_cases l0 : (x.f2.length : Int) = 0
    · refine Same.posL l0 ?_
      rw [if_pos l0]
      by_cases l1 : (x.f3.length : Int) = 0
      · rw [if_pos l1, if_pos a1]; exact Same.ret (by simpa using l1)
      · rw [if_neg l1]; exact Same.ret (by simpa using l1)
    · refine Same.negL l0 ?_
      rw [if_neg l0]; exact Same.ret rfl
  refine Same.neg e1 e1 ?_
  by_cases e2 : t.f0 = 2
  · refine Same.pos e2 e2 (Same.ite Iff.rfl (fun a2 => ?_) (fun _ => Same.ret rfl))
    simp only [impl_plainOk.f, spec_l1In_eq, Option.bind_some]
    have a1 : ¬ x.f0 = 1 := by omega
    by_cases l0 : (x.f2.length : Int) = 0
    · by_cases l1 : (x.f3.length : Int) = 0
      · by_cases n0 : x.f1 = 0
        · simp only [if_pos l0, if_pos l1, if_neg a1, if_pos a2, if_pos n0, Option.bind_some]
          exact Same.posL (by simp [n0]) (Same.ret (show ((x.f3.length : Int) == 0) = true by simpa using l1))
        · simp only [if_pos l0, if_pos l1, if_neg a1, if_pos a2, if_neg n0, Option.bind_some]
          by_cases n1 : x.f1 = 1
          · exact Same.posL (by simp [n1]) (Same.ret (show ((x.f3.length : Int) == 0) = (x.f1 == 1) by simp [n1, l1]))
          · refine Same.negL (by simp; omega) (Same.ret ?_)
            have : (x.f1 == 1) = false := by simpa using n1
            rw [this]
      · simp only [if_pos l0, if_neg l1, Option.bind_some]
        exact Same.casesL (fun _ => Same.ret (show ((x.f3.length : Int) == 0) = false by simpa using l1)) (fun _ => Same.ret rfl)
    · simp only [if_neg l0, Option.bind_some]
      exact Same.casesL (fun _ => Same.ret rfl) (fun _ => Same.ret rfl)
  refine Same.neg e2 e2 ?_
  by_cases e4 : t.f0 = 4
  · obtain ⟨g1, g2⟩ := h4 e4
    have e3 : ¬ t.f0 = 3 := by omega
    refine Same.posR e4 ?_
    rw [g1]
    by_cases n0 : x.f1 = 0
    · refine Same.posL n0 (Same.bindL (Texts_nil x.f2) ?_)
      by_cases l0 : x.f2.length = 0
      · rw [decide_eq_true l0]
        refine Same.upL ?_
        simp only [spec_l5Has.j0]
        refine Same.negL (by decide) (Same.negL e3 (Same.posL e4 ?_))
        by_cases a4 : x.f0 = 4
        · refine Same.posR a4 (Same.posR n0 (Same.posR (by omega) ?_))
          rw [show (x.f0 != 4) = false from by simp [a4]]
          refine Same.upL ?_
          simp only [spec_l5Has.j1]
          refine Same.negL (by decide) ?_
          have loop : ∀ m i, i + m = x.f3.length → ∃ b : Bool, Ev (fun k => spec_l5Has.l0 k (i : Int) x.f0 x.f1 x.f2 x.f3 t.f0 [] t.f2) b ∧ ∃ r : Int, Ev (fun k => slices_IndexFunc_Value_of_fits_1.l0 k x.f3 (x.f3.length : Int) (i : Int) t.f0 [] t.f2) r ∧ decide (r ≥ 0) = !b := by
            intro m
            induction m with
            | zero =>
              intro i hi
              refine ⟨true, Ev.up ?_, -1, Ev.up ?_, by decide⟩
              · simp only [spec_l5Has.l0]; exact Ev.neg (by omega) (Ev.now _)
              · simp only [slices_IndexFunc_Value_of_fits_1.l0]; exact Ev.neg (by omega) (Ev.now _)
            | succ m ihm =>
              intro i hi
              have hlt : i < x.f3.length := by omega
              obtain ⟨b, q1, q2⟩ := ih (x.f3.getD i z47) (mem_getD x.f3 z47 i hlt) (t.f2.getD 0 z33) (hs.p3.2 _ (mem_getD x.f3 z47 i hlt)) (hy _ (mem_getD t.f2 z33 0 (by omega)))
              have q3 : Ev (fun k => impl_fits_1.f k (rd_T47 x.f3 (i : Int)).f0 (rd_T47 x.f3 (i : Int)).f1 (rd_T47 x.f3 (i : Int)).f2 (rd_T47 x.f3 (i : Int)).f3 t.f0 [] t.f2) (!b) := by
                refine Ev.up ?_
                simp only [impl_fits_1.f]
                exact Ev.pos (by omega) (Ev.bind q2 (Ev.now _))
              cases b with
              | false =>
                refine ⟨false, Ev.up ?_, (i : Int), Ev.up ?_, by simp⟩
                · simp only [spec_l5Has.l0]
                  exact Ev.pos (by omega) (Ev.neg e3 (Ev.pos (by omega) (Ev.pos (by omega) (Ev.bind q1 (Ev.neg (by decide) (Ev.now _))))))
                · simp only [slices_IndexFunc_Value_of_fits_1.l0]
                  exact Ev.pos (by omega) (Ev.pos (by omega) (Ev.pos (by omega) (Ev.bind q3 (Ev.pos rfl (Ev.now _)))))
              | true =>
                obtain ⟨b, r1, r, r2, r3⟩ := ihm (i + 1) (by omega)
                refine ⟨b, Ev.up ?_, r, Ev.up ?_, r3⟩
                · simp only [spec_l5Has.l0, w1' hlt hs.p3.1]
                  exact Ev.pos (by omega) (Ev.neg e3 (Ev.pos (by omega) (Ev.pos (by omega) (Ev.bind q1 (Ev.pos rfl r1)))))
                · simp only [slices_IndexFunc_Value_of_fits_1.l0, w1' hlt hs.p3.1]
                  exact Ev.pos (by omega) (Ev.pos (by omega) (Ev.pos (by omega) (Ev.bind q3 (Ev.neg (by decide) r2))))
          obtain ⟨b, r1, r, r2, r3⟩ := loop x.f3.length 0 (by omega)
          refine ⟨b, r1, ?_⟩
          have c1 : Ev (fun k => slices_IndexFunc_Value_of_fits_1.f k x.f3 t.f0 [] t.f2) r := by
            refine Ev.up ?_
            simp only [slices_IndexFunc_Value_of_fits_1.f]
            exact r2
          have c2 : Ev (fun k => slices_ContainsFunc_Value_of_fits_1.f k x.f3 t.f0 [] t.f2) (!b) := by
            refine Ev.up ?_
            simp only [slices_ContainsFunc_Value_of_fits_1.f]
            exact Ev.bind c1 (Ev.const r3)
          exact Ev.bind c2 (Ev.const (by simp))
        · refine Same.negR a4 ?_
          rw [show (x.f0 != 4) = true from by simpa using a4]
          rw [g1] at spno
          exact ⟨false, spno, Ev.now _⟩
      · rw [decide_eq_false l0]
        rw [g1] at spno0
        refine ⟨false, spno0, ?_⟩
        refine Ev.cases (fun _ => Ev.pos n0 (Ev.neg (by omega) (Ev.now _))) (fun _ => Ev.now _)
    · rw [g1] at spno0
      refine Same.negL n0 ⟨false, spno0, ?_⟩
      exact Ev.cases (fun _ => Ev.neg n0 (Ev.now _)) (fun _ => Ev.now _)
  refine Same.negR e4 ?_
  have e3 : t.f0 = 3 := by omega
  by_cases n0 : x.f1 = 0
  · refine Same.posL n0 ?_
    obtain ⟨b, t1, t2⟩ := Texts_same x.f2 t.f1 hs.p2.1
    refine Same.bindL t1 ?_
    by_cases a3 : x.f0 = 3
    · refine Same.posR a3 (Same.posR n0 (Same.bindR t2 ?_))
      cases b with
      | false => exact ⟨false, spno0, Ev.neg (by decide) imno⟩
      | true =>
        refine Same.posR rfl (Same.upL ?_)
        simp only [spec_l5Has.j0]
        refine Same.negL (by decide) (Same.posL e3 (Same.posL a3 ?_))
        by_cases hl : (x.f3.length : Int) = (t.f2.length : Int)
        · rw [show ((x.f3.length : Int) != (t.f2.length : Int)) = false from by simpa using hl]
          refine Same.posL hl (Same.negL e4 (Same.upL (Same.upR ?_)))
          simp only [spec_l5Has.j1, impl_fits.j0]
          refine Same.neg (by decide) (by decide) ?_
          refine Same.loop0 x.f3.length (fun k i => spec_l5Has.l0 k (i : Int) x.f0 x.f1 x.f2 x.f3 t.f0 t.f1 t.f2) (fun k i => impl_fits.l0 k (x.f3.length : Int) (i : Int) x.f3 t.f2) ?_ (fun i hi ihl => ?_)
          · refine Same.up ?_
            simp only [spec_l5Has.l0, impl_fits.l0]
            exact Same.neg (by omega) (by omega) (Same.ret rfl)
          · refine Same.up ?_
            simp only [spec_l5Has.l0, impl_fits.l0, w1' hi hs.p3.1]
            refine Same.pos (by omega) (by omega) (Same.posL e3 (Same.pos (by omega) (by omega) (Same.posR (by omega) (Same.pos (by omega) (by omega) ?_))))
            refine Same.bind (ih (x.f3.getD i z47) (mem_getD x.f3 z47 i hi) (t.f2.getD i z33) (hs.p3.2 _ (mem_getD x.f3 z47 i hi)) (hy _ (mem_getD t.f2 z33 i (by omega)))) (fun b _ _ => ?_)
            exact Same.ite Iff.rfl (fun _ => ihl) (fun _ => Same.ret rfl)
        · rw [show ((x.f3.length : Int) != (t.f2.length : Int)) = true from by simpa using hl]
          exact Same.negL hl ⟨false, spno, imno⟩
    · refine Same.negR a3 ?_
      cases b with
      | false => exact ⟨false, spno0, imno⟩
      | true =>
        refine Same.upL ?_
        simp only [spec_l5Has.j0]
        exact Same.negL (by decide) (Same.posL e3 (Same.negL a3 ⟨false, spno, imno⟩))
  · refine Same.negL n0 ?_
    exact ⟨false, spno0, Ev.cases (fun _ => Ev.neg n0 imno) (fun _ => imno)⟩
theorem HasType_same (x : S47) (hs : SmValue x) (hn : ndValue x ≤ 1048577) (t : S33) (ht : SmType t) (hm : ndType t ≤ 1048577) : Same (fun k => spec_HasType.f k x.f0 x.f1 x.f2 x.f3 t.f0 t.f1 t.f2) (fun k => impl_HasType.f k x.f0 x.f1 x.f2 x.f3 t.f0 t.f1 t.f2) := by
  obtain ⟨r, h1, h2, h3, _⟩ := spec_l5Left_ev x hs 2000 (by decide) (by decide)
  simp only [spec_HasType.f, impl_HasType.f]
  refine Same.bindL (spec_IsData_ev t ht hm) (Same.bindR (impl_IsData_ev t ht hm) (Same.ite Iff.rfl (fun hd => ?_) (fun _ => Same.ret rfl)))
  refine Same.bindL h1 (Same.bindR (impl_SizeOfValue_ev x hs hn) ?_)
  obtain ⟨b, g1, g2⟩ := fits_same x t hs (vD_dT t hd)
  by_cases hc : ndValue x ≤ 2000
  · have := h2 (by omega)
    exact Same.pos (by omega) (by omega) ⟨b, Ev.bind g1 (Ev.now _), Ev.bind g2 (Ev.now _)⟩
  · have := h3 (by omega)
    exact Same.neg (by omega) (by omega) (Same.ret rfl)

end Go.Proofs.Ytppgalehaiagaaa.Px
end
section
namespace Go.Proofs.Ytppgalehaiagaaa.Pure
open Go.RowKit Go.Proofs.Ytppgalehaiagaaa.Px Go.Proofs.YtppgalehaiagaaaW.PrintWords Go.Proofs.YtppgalehaiagaaaW.PrintLast Go.Proofs.Ytppgalehaiagaaa.Pl
set_option linter.unusedVariables false
set_option linter.unusedSimpArgs false
theorem FnExactHasType_all (x0 : S41) (hW0 : W41 x0) (x1 : S25) (hW1 : W25 x1) : Ev (fun k => laws_FnExactHasType.f k x0.f0 x0.f1 x0.f2 x0.f3 x1.f0 x1.f1 x1.f2) true := by
  simp only [laws_FnExactHasType.f]
  have hb0 : (0 : Int) ≤ (1048576 : Int) ∧ (1048576 : Int) ≤ 1048576 := ⟨by omega, by omega⟩
  refine Ev.bind (szValue_ev x0 hW0 _ hb0.1 hb0.2) ?_
  by_cases hc0 : cut (wtValue x0) (1048576 : Int) < 0
  · exact Ev.pos hc0 (Ev.now _)
  refine Ev.neg hc0 ?_
  have hw0 : (wtValue x0 : Nat) ≤ 1048576 := by
    have := (not_congr (cut_neg (n := wtValue x0))).1 hc0
    have h2 := hb0
    omega
  have hb1 : (0 : Int) ≤ (cut (wtValue x0) (1048576 : Int)) ∧ (cut (wtValue x0) (1048576 : Int)) ≤ 1048576 := ⟨by omega, by have := cut_le (n := wtValue x0) hb0.1; omega⟩
  refine Ev.bind (szType_ev x1 hW1 _ hb1.1 hb1.2) ?_
  by_cases hc1 : cut (wtType x1) (cut (wtValue x0) (1048576 : Int)) < 0
  · exact Ev.pos hc1 (Ev.now _)
  refine Ev.neg hc1 ?_
  have hw1 : (wtType x1 : Nat) ≤ 1048576 := by
    have := (not_congr (cut_neg (n := wtType x1))).1 hc1
    have h2 := hb1
    omega
  obtain ⟨r, h1, h2⟩ := HasType_same (cvValue x0) (smValue_of x0 hW0 hw0) (by have := ndValue_cv x0; omega) (cvType x1) (smType_of x1 hW1 hw1) (by have := ndType_cv x1; omega)
  refine Ev.bind (toValue_ev x0 hw0) ?_
  refine Ev.bind (toType_ev x1 hw1) ?_
  first | refine Ev.bind h1 ?_ | (obtain ⟨k1_, h1_⟩ := h1.rounds; refine Ev.fix h1_ ?_)
  refine Ev.bind (toValue_ev x0 hw0) ?_
  refine Ev.bind (toType_ev x1 hw1) ?_
  first | refine Ev.bind h2 ?_ | (obtain ⟨k2_, h2_⟩ := h2.rounds; refine Ev.fix h2_ ?_)
  first | refine Ev.pos rfl ?_ | refine Ev.neg (by simp) ?_ | refine Ev.pos (by simp) ?_
  refine Ev.bind (toValue_ev x0 hw0) ?_
  refine Ev.bind (eqValue_ev _ (smValue_of x0 hW0 hw0)) ?_
  refine Ev.pos rfl ?_
  refine Ev.bind (toType_ev x1 hw1) ?_
  refine Ev.bind (eqType_ev _ (smType_of x1 hW1 hw1)) ?_
  refine Ev.pos rfl ?_
  exact Ev.now _
theorem FnExactHasType : laws_FnExactHasType.Pure := by
  intro v0_0 v0_1 v0_2 v0_3 v1_0 v1_1 v1_2 h0 h1
  exact (FnExactHasType_all ⟨v0_0, v0_1, v0_2, v0_3⟩ h0 ⟨v1_0, v1_1, v1_2⟩ h1).rounds
end Go.Proofs.Ytppgalehaiagaaa.Pure
end
section
namespace Go.Proofs.Ytppgalehaiagaaa.Rd
open Go.RowKit Go.Proofs.YtppgalehaiagaaaW.PrintWords
set_option linter.unusedVariables false
/-- What reads as_ data of type t, by at most n steps, is of kind d and meets q. -/
def Op (P : Program) (n : Nat) (t : TypeId) {α : Type} (d : Kd α) (q : α → Prop) : Prop :=
  ∀ (H : Type) (enc : TypeId × Value → H) (w : World) (base : Nat) (spare : Nat → Bool) (held : Bool) (fuel : Nat) (cs : List Value) (x : DataW H × List MemPlace),
    fuel ≤ n → DataW.trod enc P w base spare held fuel t cs = some x → ∃ y, d.K w y cs ∧ q y
theorem Op.imp {P : Program} {n : Nat} {t : TypeId} {α : Type} {d d' : Kd α} {q q' : α → Prop} (h1 : ∀ w y cs, d.K w y cs → d'.K w y cs) (h2 : ∀ y, q y → q' y) (h : Op P n t d q) : Op P n t d' q' := by
  intro H enc w base spare held fuel cs x hf hx
  obtain ⟨y, hy, hq⟩ := h H enc w base spare held fuel cs x hf hx
  exact ⟨y, h1 _ _ _ hy, h2 _ hq⟩
theorem Op.iso {P : Program} {n : Nat} {t : TypeId} {α β : Type} {d : Kd α} {q : α → Prop} {f : β → α} (g : α → β) (hg : ∀ y, f (g y) = y) (h : Op P n t d q) : Op P n t (Kd.iso d f) (fun x => q (f x)) := by
  intro H enc w base spare held fuel cs x hf hx
  obtain ⟨y, hy, hq⟩ := h H enc w base spare held fuel cs x hf hx
  refine ⟨g y, ?_, ?_⟩
  · show d.K w (f (g y)) cs
    rw [hg]; exact hy
  · show q (f (g y))
    rw [hg]; exact hq
theorem Op.int {P : Program} {n : Nat} {t : TypeId} {k : IntKind} (ht : P.underlying t = some (.int k)) : Op P n t (Kd.int k) (fun x => (Lit.int k x).wf = true) := by
  intro H enc w base spare held fuel cs x hf hx
  obtain ⟨m, rfl, rfl, hw⟩ := DataW.trod_int ht hx
  exact ⟨m, rfl, hw⟩
theorem Op.bool {P : Program} {n : Nat} {t : TypeId} (ht : P.underlying t = some .bool) : Op P n t Kd.bool (fun _ => True) := by
  intro H enc w base spare held fuel cs x hf hx
  obtain ⟨m, rfl, rfl⟩ := DataW.trod_bool ht hx
  exact ⟨m, rfl, trivial⟩
theorem trod_string' {H : Type} {enc : TypeId × Value → H} {P : Program} {w : World} {base : Nat} {spare : Nat → Bool} {held : Bool} {fuel : Nat} {t : TypeId} {cs : List Value} {x : DataW H × List MemPlace}
    (ht : P.underlying t = some .string) (h : DataW.trod enc P w base spare held fuel t cs = some x) : ∃ s, cs = [.string s] ∧ s.size ≤ maxLen := by
  cases fuel with
  | zero => simp [DataW.trod] at h
  | succ n =>
    unfold DataW.trod at h
    rw [ht] at h
    split at h <;> simp_all
theorem Op.string {P : Program} {n : Nat} {t : TypeId} (ht : P.underlying t = some .string) : Op P n t Kd.string (fun s => s.size ≤ maxLen) := by
  intro H enc w base spare held fuel cs x hf hx
  obtain ⟨m, rfl, hm⟩ := trod_string' ht hx
  exact ⟨m, rfl, hm⟩
theorem add_add (a : Addr) (i j : Nat) : (a.add i).add j = a.add (i + j) := by
  unfold Addr.add
  by_cases h1 : i = 0 <;> by_cases h2 : j = 0 <;> simp [h1, h2, Nat.add_assoc]
theorem choose_list {α : Type} {p : Nat → α → Prop} (n : Nat) (h : ∀ i, i < n → ∃ y, p i y) : ∃ ys : List α, ys.length = n ∧ ∀ i y, ys[i]? = some y → p i y := by
  induction n with
  | zero => exact ⟨[], rfl, fun i y hy => by simp at hy⟩
  | succ n ih =>
    obtain ⟨ys, hl, hy⟩ := ih (fun i hi => h i (by omega))
    obtain ⟨z, hz⟩ := h n (by omega)
    refine ⟨ys ++ [z], by simp [hl], fun i y hi => ?_⟩
    by_cases hlt : i < n
    · rw [List.getElem?_append_left (by omega)] at hi
      exact hy i y hi
    · by_cases he : i = n
      · subst he
        rw [List.getElem?_append_right (by omega)] at hi
        simp [hl] at hi
        subst hi
        exact hz
      · rw [List.getElem?_eq_none (by simp; omega)] at hi
        cases hi
theorem Op.slice {P : Program} {n : Nat} {t e : TypeId} {α : Type} {d : Kd α} {q : α → Prop} (ht : P.underlying t = some (.slice e)) (hsz : P.cellsOf e = d.sz) (h : ∀ k, k < n → Op P k e d q) :
    Op P n t (Kd.slice e d) (fun xs => xs.length ≤ maxLen ∧ ∀ y ∈ xs, q y) := by
  intro H enc w base spare held fuel cs x hf hx
  rcases DataW.trod_slice ht hx with ⟨rfl, _⟩ | ⟨a, len, cap, elems, rest, m, hm, rfl, _, hb, hl, hc, hlen, hel, _, _⟩
  · exact ⟨[], ⟨none, 0, rfl, Nat.le_refl _, ⟨rfl, by simp, fun hp => absurd hp (by simp)⟩⟩, by simp, fun y hy => by simp at hy⟩
  · have hone : ∀ i, i < len → ∃ y, (∃ c, c.length = d.sz ∧ d.K w y c ∧ ∀ j u, c[j]? = some u → w.cell? (a.add (i * d.sz + j)) = some u) ∧ q y := by
      intro i hi
      have h1 := hel i hi
      rw [List.getElem?_eq_getElem (by omega)] at h1
      obtain ⟨c, hc1, hc2⟩ := Option.bind_eq_some_iff.1 h1
      obtain ⟨y, hy, hq⟩ := h m (by omega) H enc w base spare held m c _ (Nat.le_refl _) hc2
      obtain ⟨_, hcl, hcells⟩ := World.cells?_some hc1
      refine ⟨y, ⟨c, by omega, hy, fun j u hu => ?_⟩, hq⟩
      have hj : j < P.cellsOf e := by
        rw [← hcl]
        exact (List.getElem?_eq_some_iff.1 hu).1
      have := hcells j hj
      rw [add_add, hsz] at this
      rw [this, hu]
    obtain ⟨ys, hyl, hys⟩ := choose_list len hone
    have hmx : len ≤ 9223372036854775807 := by
      have : cap ≤ 9223372036854775807 := hc
      omega
    refine ⟨ys, ⟨some a, cap, by rw [hyl], by omega, ⟨rfl, by omega, fun _ => ⟨a, rfl, fun j p hj => (hys j p hj).1⟩⟩⟩, by rw [hyl]; exact hmx, fun y hy => ?_⟩
    obtain ⟨i, hi, rfl⟩ := List.getElem_of_mem hy
    exact (hys i _ (List.getElem?_eq_getElem hi)).2
/-- Fields, from an offset on. -/
def OpF (P : Program) (n : Nat) (fs : List Field) (off : Nat) {α : Type} (d : Kd α) (q : α → Prop) : Prop :=
  ∀ (H : Type) (enc : TypeId × Value → H) (w : World) (base : Nat) (spare : Nat → Bool) (held : Bool) (fuel : Nat) (cs : List Value), fuel ≤ n →
    (∀ f ∈ fs, ∃ x, DataW.trod enc P w base spare held fuel f.type ((cs.drop f.offset).take (P.cellsOf f.type)) = some x) → cs.length = off + d.sz → ∃ y, d.K w y (cs.drop off) ∧ q y
theorem OpF.one {P : Program} {n : Nat} {f : Field} {off : Nat} {α : Type} {d : Kd α} {q : α → Prop} (ho : f.offset = off) (hsz : P.cellsOf f.type = d.sz) (h : Op P n f.type d q) : OpF P n [f] off d q := by
  intro H enc w base spare held fuel cs hf hx hl
  obtain ⟨x, hx⟩ := hx f (List.mem_singleton.2 rfl)
  rw [ho, hsz, List.take_of_length_le (by rw [List.length_drop]; omega)] at hx
  exact h H enc w base spare held fuel _ x hf hx
theorem OpF.cons {P : Program} {n : Nat} {f : Field} {fs : List Field} {off : Nat} {α β : Type} {a : Kd α} {b : Kd β} {qa : α → Prop} {qb : β → Prop} (ho : f.offset = off) (hsz : P.cellsOf f.type = a.sz) (h : Op P n f.type a qa) (hr : OpF P n fs (off + a.sz) b qb) :
    OpF P n (f :: fs) off (Kd.pair a b) (fun y => qa y.1 ∧ qb y.2) := by
  intro H enc w base spare held fuel cs hf hx hl
  have hl' : cs.length = off + (a.sz + b.sz) := hl
  obtain ⟨x, h1⟩ := hx f (List.mem_cons_self ..)
  rw [ho, hsz] at h1
  obtain ⟨y, hy, hq⟩ := h H enc w base spare held fuel _ x hf h1
  obtain ⟨z, hz, hq2⟩ := hr H enc w base spare held fuel cs hf (fun g hg => hx g (List.mem_cons_of_mem _ hg)) (by omega)
  refine ⟨(y, z), ⟨_, _, ?_, hy, hz⟩, hq, hq2⟩
  rw [← List.drop_drop, List.take_append_drop]
theorem Op.struct {P : Program} {n : Nat} {t : TypeId} {fs : Array Field} {α : Type} {d : Kd α} {q : α → Prop} (ht : P.underlying t = some (.struct fs)) (hsz : P.cellsOf t = d.sz) (h : ∀ k, k < n → OpF P k fs.toList 0 d q) : Op P n t d q := by
  intro H enc w base spare held fuel cs x hf hx
  obtain ⟨xs, m, hm, _, hl, hxl, hfs⟩ := DataW.trod_struct ht hx
  have hr := h m (by omega) H enc w base spare held m cs (Nat.le_refl _) (fun f hfm => ?_) (by omega)
  · simpa using hr
  · obtain ⟨i, hi, rfl⟩ := List.getElem_of_mem hfm
    have hi' : i < fs.size := by simpa using hi
    have h2 := hfs i _ (Array.getElem?_eq_getElem hi')
    rw [List.getElem?_eq_getElem (by omega)] at h2
    exact ⟨_, by simpa using h2⟩
/-- The same at whatever fuel. -/
theorem Op.open_ {P : Program} {t : TypeId} {α : Type} {d : Kd α} {q : α → Prop} (h : ∀ n, Op P n t d q) {H : Type} {enc : TypeId × Value → H} {w : World} {base : Nat} {spare : Nat → Bool} {held : Bool} {v : Value} {x : DataW H} {ps : List MemPlace}
    (ht : DataW.Trod enc P w base spare held t v x ps) : ∃ y, d.K w y v.cells.toList ∧ q y := by
  obtain ⟨fuel, hf⟩ := ht
  exact h fuel H enc w base spare held fuel _ _ (Nat.le_refl _) hf
end Go.Proofs.Ytppgalehaiagaaa.Rd
end
section
namespace Go.Proofs.Ytppgalehaiagaaa.Px
open Go.RowKit Go.Proofs.Ytppgalehaiagaaa.Ext Go.Proofs.YtppgalehaiagaaaW.PrintWords Go.Proofs.YtppgalehaiagaaaW.PrintLast Go.Proofs.YtppgalehaiagaaaW.PrintMore Go.Proofs.Ytppgalehaiagaaa
set_option linter.unusedVariables false
set_option linter.unusedSimpArgs false

theorem fold25 : ∀ (w : World) (x : S25) (cs : List Value), (F25 k25).K w x cs → k25.K w x cs := by
  intro w x cs h
  obtain ⟨_, _, rfl, rfl, ⟨_, _, rfl, ⟨A1, c1, rfl, l1, g1⟩, ⟨A2, c2, rfl, l2, g2⟩⟩⟩ := h
  exact k25_mk w x l1 g1 l2 g2
theorem op25 : ∀ n, Rd.Op Try.prog n 25 k25 W25 := by
  intro n
  induction n using Nat.strongRecOn with
  | _ n ih =>
  exact Rd.Op.imp (d := F25 k25) fold25 (fun x h => W25.mk h.1 h.2.1 h.2.2.1 h.2.2.2) (Rd.Op.iso (g := fun p => ⟨p.1, p.2.1, p.2.2⟩) (fun _ => rfl) (Rd.Op.struct Try.underlying25 (by kernel_rfl) (fun j0 hj0 => (Rd.OpF.cons rfl (by kernel_rfl) (Rd.Op.int Try.underlying3) (Rd.OpF.cons rfl (by kernel_rfl) (Rd.Op.slice Try.underlying22 (by kernel_rfl) (fun j1 hj1 => (Rd.Op.string Try.underlying9))) (Rd.OpF.one rfl (by kernel_rfl) (Rd.Op.slice Try.underlying23 (by kernel_rfl) (fun j1 hj1 => ih j1 (by omega)))))))))
theorem fold41 : ∀ (w : World) (x : S41) (cs : List Value), (F41 k41).K w x cs → k41.K w x cs := by
  intro w x cs h
  obtain ⟨_, _, rfl, rfl, ⟨_, _, rfl, rfl, ⟨_, _, rfl, ⟨A2, c2, rfl, l2, g2⟩, ⟨A3, c3, rfl, l3, g3⟩⟩⟩⟩ := h
  exact k41_mk w x l2 g2 l3 g3
theorem op41 : ∀ n, Rd.Op Try.prog n 41 k41 W41 := by
  intro n
  induction n using Nat.strongRecOn with
  | _ n ih =>
  exact Rd.Op.imp (d := F41 k41) fold41 (fun x h => W41.mk h.1 h.2.1 h.2.2.1 h.2.2.2.1 h.2.2.2.2) (Rd.Op.iso (g := fun p => ⟨p.1, p.2.1, p.2.2.1, p.2.2.2⟩) (fun _ => rfl) (Rd.Op.struct Try.underlying41 (by kernel_rfl) (fun j0 hj0 => (Rd.OpF.cons rfl (by kernel_rfl) (Rd.Op.int Try.underlying3) (Rd.OpF.cons rfl (by kernel_rfl) (Rd.Op.int Try.underlying3) (Rd.OpF.cons rfl (by kernel_rfl) (Rd.Op.slice Try.underlying22 (by kernel_rfl) (fun j1 hj1 => (Rd.Op.string Try.underlying9))) (Rd.OpF.one rfl (by kernel_rfl) (Rd.Op.slice Try.underlying39 (by kernel_rfl) (fun j1 hj1 => ih j1 (by omega))))))))))
end Go.Proofs.Ytppgalehaiagaaa.Px
end
