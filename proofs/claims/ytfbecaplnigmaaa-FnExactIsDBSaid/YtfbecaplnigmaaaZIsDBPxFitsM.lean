/- Is a value one of a type of data: the program's and the reference's tests come to the same. No condition beyond the sizes named. -/
import Derived.Test.YtfbecaplnigmaaaZIsDBPx0M
import Derived.Test.YtfbecaplnigmaaaZIsDBPx18
import Derived.Test.YtfbecaplnigmaaaZIsDBPx19
import Derived.Test.YtfbecaplnigmaaaZIsDBPx20
import Derived.Test.YtfbecaplnigmaaaZIsDBPx6M
import Derived.Test.YtfbecaplnigmaaaZIsDBPx8
import Derived.Test.YtfbecaplnigmaaaZIsDBPx9M
import Derived.Test.YtfbecaplnigmaaaZIsDBPxFTableDataM
import Derived.Test.YtfbecaplnigmaaaZIsDBPx26M
import Derived.Test.YtfbecaplnigmaaaZIsDBWLastM
import Derived.Test.YtfbecaplnigmaaaZIsDBPx17
import Derived.Test.YtfbecaplnigmaaaZIsDBPx21
import Derived.Test.YtfbecaplnigmaaaZIsDBWWords
import Derived.Deep.Slices
import Derived.ChangeArms
import Derived.DataReads
section
namespace Go.Proofs.Ytfbecaplnigmaaa.Px
open Go.RowKit Go.Proofs.YtfbecaplnigmaaaW.PrintWords Go.Proofs.YtfbecaplnigmaaaW.PrintLast Go.Proofs.Ytfbecaplnigmaaa.Pl Go.Proofs.Ytfbecaplnigmaaa.Ext
set_option linter.unusedVariables false
set_option linter.unusedSimpArgs false
/-- A type that is right and has no functions. -/
def dT (t : S51) : Bool := formT t && !(hasT 5 t)
theorem dT_cases (t : S51) (h : dT t = true) : (t.f0 = 1 ∨ t.f0 = 2 ∨ t.f0 = 3 ∨ t.f0 = 4) ∧ (∀ y ∈ t.f2, dT y = true) ∧ (t.f0 = 4 → t.f1 = [] ∧ t.f2.length = 1) := by
  simp only [dT, Bool.and_eq_true, Bool.not_eq_true'] at h
  obtain ⟨hf, hh⟩ := h
  rw [formT_eq, Bool.and_eq_true, formTS_all, List.all_eq_true] at hf
  rw [hasT_eq, Bool.or_eq_false_iff, hasTS_any] at hh
  obtain ⟨h1, h2⟩ := hf
  obtain ⟨h3, h4⟩ := hh
  have h5 : ¬ t.f0 = 5 := by simpa using h4
  refine ⟨?_, fun y hy => ?_, fun e4 => ?_⟩
  · unfold topT at h2
    by_cases e3 : t.f0 = 3
    · omega
    rw [if_neg e3] at h2
    by_cases e4 : t.f0 = 4
    · omega
    rw [if_neg (fun h => e4 h.1), Bool.and_eq_true] at h2
    have hw := of_decide_eq_true h2.2
    unfold wantT at hw
    by_cases e12 : t.f0 = 1 ∨ t.f0 = 2
    · omega
    · rw [if_neg e12, if_neg e4, if_neg h5] at hw; omega
  · simp only [dT, Bool.and_eq_true, Bool.not_eq_true']
    refine ⟨h1 y hy, ?_⟩
    rw [Bool.eq_false_iff]
    intro hc
    rw [Bool.eq_false_iff] at h3
    exact h3 (List.any_eq_true.2 ⟨y, hy, hc⟩)
  · unfold topT at h2
    rw [if_neg (by omega)] at h2
    split at h2
    · cases h2
    · rw [Bool.and_eq_true] at h2
      have hl := of_decide_eq_true h2.1
      have hw := of_decide_eq_true h2.2
      unfold wantT at hw
      rw [if_neg (by omega), if_pos e4] at hw
      exact ⟨List.length_eq_zero_iff.1 (by omega), by omega⟩
theorem vD_dT (t : S51) (h : vD t = true) : dT t = true := by
  simp only [vD, vT, Bool.and_eq_true] at h
  simp only [dT, Bool.and_eq_true]
  exact ⟨h.1.2.2, h.2⟩
theorem Texts_nil (xs : List ByteArray) : Ev (fun k => spec_l3Texts.f k xs []) (decide (xs.length = 0)) := by
  simp only [spec_l3Texts.f]
  by_cases h : xs.length = 0
  · rw [decide_eq_true h]
    refine Ev.pos (by simpa using h) (Ev.up ?_)
    simp only [spec_l3Texts.l0]
    exact Ev.neg (by omega) (Ev.now _)
  · rw [decide_eq_false h]
    exact Ev.neg (by simpa using h) (Ev.now _)
theorem fits_same : ∀ x : S56, ∀ t : S51, SmValue x → dT t = true → Same (fun k => spec_l5Has.f k x.f0 x.f1 x.f2 x.f3 t.f0 t.f1 t.f2) (fun k => impl_fits.f k x.f0 x.f1 x.f2 x.f3 t.f0 t.f1 t.f2) := by
  refine indValueI fun x ih t hs ht => ?_
  obtain ⟨hk, hy, h4⟩ := dT_cases t ht
  have spno : Ev (fun k => spec_l5Has.j1 k true x.f0 x.f1 x.f2 x.f3 t.f0 t.f1 t.f2) false := by
    refine Ev.up ?_
    simp only [spec_l5Has.j1]
    exact Ev.pos (by simp) (Ev.now _)
  have spno0 : Ev (fun k => spec_l5Has.j0 k true x.f0 x.f1 x.f2 x.f3 t.f0 t.f1 t.f2) false := by
    refine Ev.up ?_
    simp only [spec_l5Has.j0]
    exact Ev.pos (by simp) (Ev.now _)
  have imno : Ev (fun k => impl_fits.j0 k true x.f3 t.f2) false := by
    refine Ev.up ?_
    simp only [impl_fits.j0]
    exact Ev.pos (by simp) (Ev.now _)
  refine Same.up ?_
  simp only [spec_l5Has.f, impl_fits.f]
  by_cases e1 : t.f0 = 1
  · refine Same.pos e1 e1 (Same.ite Iff.rfl (fun a1 => ?_) (fun _ => Same.ret rfl))
    simp only [impl_plainOk.f]
    by_cases l0 : (x.f2.length : Int) = 0
    · refine Same.posL l0 ?_
      rw [if_pos l0]
      by_cases l1 : (x.f3.length : Int) = 0
      · rw [if_pos l1, if_pos a1]; exact Same.ret (by simpa using l1)
      · rw [if_neg l1]; exact Same.ret (by simpa using l1)
    · refine Same.negL l0 ?_
      rw [if_neg l0]; exact Same.ret rfl
  refine Same.neg e1 e1 ?_
  by_cases e2 : t.f0 = 2
  · refine Same.pos e2 e2 (Same.ite Iff.rfl (fun a2 => ?_) (fun _ => Same.ret rfl))
    simp only [impl_plainOk.f, spec_l1In_eq, Option.bind_some]
    have a1 : ¬ x.f0 = 1 := by omega
    by_cases l0 : (x.f2.length : Int) = 0
    · by_cases l1 : (x.f3.length : Int) = 0
      · by_cases n0 : x.f1 = 0
        · simp only [if_pos l0, if_pos l1, if_neg a1, if_pos a2, if_pos n0, Option.bind_some]
          exact Same.posL (by simp [n0]) (Same.ret (show ((x.f3.length : Int) == 0) = true by simpa using l1))
        · simp only [if_pos l0, if_pos l1, if_neg a1, if_pos a2, if_neg n0, Option.bind_some]
          by_cases n1 : x.f1 = 1
          · exact Same.posL (by simp [n1]) (Same.ret (show ((x.f3.length : Int) == 0) = (x.f1 == 1) by simp [n1, l1]))
          · refine Same.negL (by simp; omega) (Same.ret ?_)
            have : (x.f1 == 1) = false := by simpa using n1
            rw [this]
      · simp only [if_pos l0, if_neg l1, Option.bind_some]
        exact Same.casesL (fun _ => Same.ret (show ((x.f3.length : Int) == 0) = false by simpa using l1)) (fun _ => Same.ret rfl)
    · simp only [if_neg l0, Option.bind_some]
      exact Same.casesL (fun _ => Same.ret rfl) (fun _ => Same.ret rfl)
  refine Same.neg e2 e2 ?_
  by_cases e4 : t.f0 = 4
  · obtain ⟨g1, g2⟩ := h4 e4
    have e3 : ¬ t.f0 = 3 := by omega
    refine Same.posR e4 ?_
    rw [g1]
    by_cases n0 : x.f1 = 0
    · refine Same.posL n0 (Same.bindL (Texts_nil x.f2) ?_)
      by_cases l0 : x.f2.length = 0
      · rw [decide_eq_true l0]
        refine Same.upL ?_
        simp only [spec_l5Has.j0]
        refine Same.negL (by decide) (Same.negL e3 (Same.posL e4 ?_))
        by_cases a4 : x.f0 = 4
        · refine Same.posR a4 (Same.posR n0 (Same.posR (by omega) ?_))
          rw [show (x.f0 != 4) = false from by simp [a4]]
          refine Same.upL ?_
          simp only [spec_l5Has.j1]
          refine Same.negL (by decide) ?_
          have loop : ∀ m i, i + m = x.f3.length → ∃ b : Bool, Ev (fun k => spec_l5Has.l0 k (i : Int) x.f0 x.f1 x.f2 x.f3 t.f0 [] t.f2) b ∧ ∃ r : Int, Ev (fun k => slices_IndexFunc_Value_of_fits_1.l0 k x.f3 (x.f3.length : Int) (i : Int) t.f0 [] t.f2) r ∧ decide (r ≥ 0) = !b := by
            intro m
            induction m with
            | zero =>
              intro i hi
              refine ⟨true, Ev.up ?_, -1, Ev.up ?_, by decide⟩
              · simp only [spec_l5Has.l0]; exact Ev.neg (by omega) (Ev.now _)
              · simp only [slices_IndexFunc_Value_of_fits_1.l0]; exact Ev.neg (by omega) (Ev.now _)
            | succ m ihm =>
              intro i hi
              have hlt : i < x.f3.length := by omega
              obtain ⟨b, q1, q2⟩ := ih (x.f3.getD i z56) (mem_getD x.f3 z56 i hlt) (t.f2.getD 0 z51) (hs.p3.2 _ (mem_getD x.f3 z56 i hlt)) (hy _ (mem_getD t.f2 z51 0 (by omega)))
              have q3 : Ev (fun k => impl_fits_1.f k (rd_T56 x.f3 (i : Int)).f0 (rd_T56 x.f3 (i : Int)).f1 (rd_T56 x.f3 (i : Int)).f2 (rd_T56 x.f3 (i : Int)).f3 t.f0 [] t.f2) (!b) := by
                refine Ev.up ?_
                simp only [impl_fits_1.f]
                exact Ev.pos (by omega) (Ev.bind q2 (Ev.now _))
              cases b with
              | false =>
                refine ⟨false, Ev.up ?_, (i : Int), Ev.up ?_, by simp⟩
                · simp only [spec_l5Has.l0]
                  exact Ev.pos (by omega) (Ev.neg e3 (Ev.pos (by omega) (Ev.pos (by omega) (Ev.bind q1 (Ev.neg (by decide) (Ev.now _))))))
                · simp only [slices_IndexFunc_Value_of_fits_1.l0]
                  exact Ev.pos (by omega) (Ev.pos (by omega) (Ev.pos (by omega) (Ev.bind q3 (Ev.pos rfl (Ev.now _)))))
              | true =>
                obtain ⟨b, r1, r, r2, r3⟩ := ihm (i + 1) (by omega)
                refine ⟨b, Ev.up ?_, r, Ev.up ?_, r3⟩
                · simp only [spec_l5Has.l0, w1' hlt hs.p3.1]
                  exact Ev.pos (by omega) (Ev.neg e3 (Ev.pos (by omega) (Ev.pos (by omega) (Ev.bind q1 (Ev.pos rfl r1)))))
                · simp only [slices_IndexFunc_Value_of_fits_1.l0, w1' hlt hs.p3.1]
                  exact Ev.pos (by omega) (Ev.pos (by omega) (Ev.pos (by omega) (Ev.bind q3 (Ev.neg (by decide) r2))))
          obtain ⟨b, r1, r, r2, r3⟩ := loop x.f3.length 0 (by omega)
          refine ⟨b, r1, ?_⟩
          have c1 : Ev (fun k => slices_IndexFunc_Value_of_fits_1.f k x.f3 t.f0 [] t.f2) r := by
            refine Ev.up ?_
            simp only [slices_IndexFunc_Value_of_fits_1.f]
            exact r2
          have c2 : Ev (fun k => slices_ContainsFunc_Value_of_fits_1.f k x.f3 t.f0 [] t.f2) (!b) := by
            refine Ev.up ?_
            simp only [slices_ContainsFunc_Value_of_fits_1.f]
            exact Ev.bind c1 (Ev.const r3)
          exact Ev.bind c2 (Ev.const (by simp))
        · refine Same.negR a4 ?_
          rw [show (x.f0 != 4) = true from by simpa using a4]
          rw [g1] at spno
          exact ⟨false, spno, Ev.now _⟩
      · rw [decide_eq_false l0]
        rw [g1] at spno0
        refine ⟨false, spno0, ?_⟩
        refine Ev.cases (fun _ => Ev.pos n0 (Ev.neg (by omega) (Ev.now _))) (fun _ => Ev.now _)
    · rw [g1] at spno0
      refine Same.negL n0 ⟨false, spno0, ?_⟩
      exact Ev.cases (fun _ => Ev.neg n0 (Ev.now _)) (fun _ => Ev.now _)
  refine Same.negR e4 ?_
  have e3 : t.f0 = 3 := by omega
  by_cases n0 : x.f1 = 0
  · refine Same.posL n0 ?_
    obtain ⟨b, t1, t2⟩ := Texts_same x.f2 t.f1 hs.p2.1
    refine Same.bindL t1 ?_
    by_cases a3 : x.f0 = 3
    · refine Same.posR a3 (Same.posR n0 (Same.bindR t2 ?_))
      cases b with
      | false => exact ⟨false, spno0, Ev.neg (by decide) imno⟩
      | true =>
        refine Same.posR rfl (Same.upL ?_)
        simp only [spec_l5Has.j0]
        refine Same.negL (by decide) (Same.posL e3 (Same.posL a3 ?_))
        by_cases hl : (x.f3.length : Int) = (t.f2.length : Int)
        · rw [show ((x.f3.length : Int) != (t.f2.length : Int)) = false from by simpa using hl]
          refine Same.posL hl (Same.negL e4 (Same.upL (Same.upR ?_)))
          simp only [spec_l5Has.j1, impl_fits.j0]
          refine Same.neg (by decide) (by decide) ?_
          refine Same.loop0 x.f3.length (fun k i => spec_l5Has.l0 k (i : Int) x.f0 x.f1 x.f2 x.f3 t.f0 t.f1 t.f2) (fun k i => impl_fits.l0 k (x.f3.length : Int) (i : Int) x.f3 t.f2) ?_ (fun i hi ihl => ?_)
          · refine Same.up ?_
            simp only [spec_l5Has.l0, impl_fits.l0]
            exact Same.neg (by omega) (by omega) (Same.ret rfl)
          · refine Same.up ?_
            simp only [spec_l5Has.l0, impl_fits.l0, w1' hi hs.p3.1]
            refine Same.pos (by omega) (by omega) (Same.posL e3 (Same.pos (by omega) (by omega) (Same.posR (by omega) (Same.pos (by omega) (by omega) ?_))))
            refine Same.bind (ih (x.f3.getD i z56) (mem_getD x.f3 z56 i hi) (t.f2.getD i z51) (hs.p3.2 _ (mem_getD x.f3 z56 i hi)) (hy _ (mem_getD t.f2 z51 i (by omega)))) (fun b _ _ => ?_)
            exact Same.ite Iff.rfl (fun _ => ihl) (fun _ => Same.ret rfl)
        · rw [show ((x.f3.length : Int) != (t.f2.length : Int)) = true from by simpa using hl]
          exact Same.negL hl ⟨false, spno, imno⟩
    · refine Same.negR a3 ?_
      cases b with
      | false => exact ⟨false, spno0, imno⟩
      | true =>
        refine Same.upL ?_
        simp only [spec_l5Has.j0]
        exact Same.negL (by decide) (Same.posL e3 (Same.negL a3 ⟨false, spno, imno⟩))
  · refine Same.negL n0 ?_
    exact ⟨false, spno0, Ev.cases (fun _ => Ev.neg n0 imno) (fun _ => imno)⟩
theorem HasType_same (x : S56) (hs : SmValue x) (hn : ndValue x ≤ 1048577) (t : S51) (ht : SmType t) (hm : ndType t ≤ 1048577) : Same (fun k => spec_HasType.f k x.f0 x.f1 x.f2 x.f3 t.f0 t.f1 t.f2) (fun k => impl_HasType.f k x.f0 x.f1 x.f2 x.f3 t.f0 t.f1 t.f2) := by
  obtain ⟨r, h1, h2, h3, _⟩ := spec_l5Left_ev x hs 2000 (by decide) (by decide)
  simp only [spec_HasType.f, impl_HasType.f]
  refine Same.bindL (spec_IsData_ev t ht hm) (Same.bindR (impl_IsData_ev t ht hm) (Same.ite Iff.rfl (fun hd => ?_) (fun _ => Same.ret rfl)))
  refine Same.bindL h1 (Same.bindR (impl_SizeOfValue_ev x hs hn) ?_)
  obtain ⟨b, g1, g2⟩ := fits_same x t hs (vD_dT t hd)
  by_cases hc : ndValue x ≤ 2000
  · have := h2 (by omega)
    exact Same.pos (by omega) (by omega) ⟨b, Ev.bind g1 (Ev.now _), Ev.bind g2 (Ev.now _)⟩
  · have := h3 (by omega)
    exact Same.neg (by omega) (by omega) (Same.ret rfl)

end Go.Proofs.Ytfbecaplnigmaaa.Px
end
section
namespace Go.Proofs.Ytfbecaplnigmaaa.Px
open Go.RowKit Go.Proofs.YtfbecaplnigmaaaW.PrintWords Go.Proofs.YtfbecaplnigmaaaW.PrintLast Go.Proofs.Ytfbecaplnigmaaa.Pl Go.Proofs.Ytfbecaplnigmaaa.Ext
set_option linter.unusedVariables false
set_option linter.unusedSimpArgs false
/-- Is a table's declaration right? -/
def okTD (y : S53) : Bool := isName y.f0 && vR y.f1
def nmsTD (xs : List S53) : List ByteArray := xs.map (fun y => y.f0)
/-- Is a schema right? -/
def vSc (xs : List S53) : Bool := xs.all okTD && (decide (xs.length ≤ 4) && asc (nmsTD xs) 1 (xs.length - 1))
theorem spec_IsSchema_ev (xs : List S53) (hx : xs.length ≤ 1048576) (hs : ∀ y ∈ xs, SmTableDecl y) (hn : ∀ y ∈ xs, ndType y.f1 ≤ 1048577) : Ev (fun k => spec_IsSchema.f k xs) (vSc xs) := by
  simp only [spec_IsSchema.f]
  suffices h : ∀ m i, i + m = xs.length → Ev (fun k => spec_IsSchema.l0 k (nmsTD (xs.take i)) (i : Int) xs) ((xs.drop i).all okTD && (decide (xs.length ≤ 4) && asc (nmsTD xs) 1 (xs.length - 1))) from by simpa [nmsTD, vSc] using h xs.length 0 (by omega)
  intro m
  induction m with
  | zero =>
    intro i hi
    refine Ev.up ?_
    simp only [spec_IsSchema.l0]
    refine Ev.neg (by omega) ?_
    rw [List.take_of_length_le (by omega), List.drop_of_length_le (by omega)]
    have hl : (nmsTD xs).length = xs.length := by simp [nmsTD]
    rw [hl, List.all_nil, Bool.true_and]
    refine Ev.cases (fun h => ?_) (fun h => ?_)
    · rw [decide_eq_true (by omega : xs.length ≤ 4), Bool.true_and]
      have := spec_AreAscending_ev (nmsTD xs) (by omega)
      rw [hl] at this
      exact Ev.bind this (Ev.now _)
    · rw [decide_eq_false (by omega : ¬ xs.length ≤ 4), Bool.false_and]
      exact Ev.now _
  | succ m ih =>
    intro i hi
    have hlt : i < xs.length := by omega
    have e : xs.getD i z53 = xs[i] := by simp [List.getD_eq_getElem?_getD, hlt]
    have hm := mem_getD xs z53 i hlt
    have ih' := ih (i + 1) (by omega)
    refine Ev.up ?_
    simp only [spec_IsSchema.l0, w1' hlt hx]
    refine Ev.pos (by omega) (Ev.pos (by omega) ?_)
    rw [List.drop_eq_getElem_cons hlt, List.all_cons, ← e]
    refine Ev.bind (spec_IsName_ev _ (hs _ hm).1) ?_
    unfold okTD
    refine Ev.cases (fun h => ?_) (fun h => ?_)
    · rw [show isName (xs.getD i z53).f0 = true from h, Bool.true_and]
      refine Ev.bind (spec_IsRow_ev _ (hs _ hm).2 (hn _ hm)) ?_
      refine Ev.cases (fun h2 => ?_) (fun h2 => ?_)
      · rw [show vR (xs.getD i z53).f1 = true from h2, Bool.true_and]
        refine Ev.pos (by simp [nmsTD]; omega) ?_
        have e2 : nmsTD (xs.take i) ++ [(rd_T53 xs (i : Int)).f0] = nmsTD (xs.take (i + 1)) := by
          show nmsTD (xs.take i) ++ [(xs.getD i z53).f0] = _
          rw [List.take_succ_eq_append_getElem hlt, e]
          simp only [nmsTD, List.map_append, List.map_cons, List.map_nil]
        rw [e2]
        exact ih'
      · rw [show vR (xs.getD i z53).f1 = false from Bool.eq_false_iff.2 h2]; exact Ev.const (by simp)
    · rw [show isName (xs.getD i z53).f0 = false from Bool.eq_false_iff.2 h]; exact Ev.const (by simp)
theorem asc_nms (xs : List S53) (i : Nat) (m : Nat) (hi : 1 ≤ i) (h : i + (m + 1) ≤ xs.length) : asc (nmsTD xs) i (m + 1) = (Op.bytesLess (rd_T53 xs ((i - 1 : Nat) : Int)).f0.toList (rd_T53 xs (i : Int)).f0.toList && asc (nmsTD xs) (i + 1) m) := by
  have g : ∀ j, j < xs.length → (nmsTD xs).getD j ByteArray.empty = (rd_T53 xs (j : Int)).f0 := by
    intro j hj
    show _ = (xs.getD j z53).f0
    simp [nmsTD, List.getD_eq_getElem?_getD, hj]
  simp only [asc]
  rw [g (i - 1) (by omega), g i (by omega)]
theorem impl_IsSchema_ev (xs : List S53) (hx : xs.length ≤ 1048576) (hs : ∀ y ∈ xs, SmTableDecl y) (hn : ∀ y ∈ xs, ndType y.f1 ≤ 1048577) : Ev (fun k => impl_IsSchema.f k xs) (vSc xs) := by
  simp only [impl_IsSchema.f]
  -- from the index i on: what is left to be looked at
  suffices h : ∀ m i, i + m = xs.length → Ev (fun k => impl_IsSchema.l0 k xs (xs.length : Int) (i : Int) xs) ((xs.drop i).all okTD && (decide (xs.length ≤ 4) && asc (nmsTD xs) (max i 1) (if i = 0 then m - 1 else m))) from by
    have := h xs.length 0 (by omega)
    simpa [vSc] using this
  intro m
  induction m with
  | zero =>
    intro i hi
    refine Ev.up ?_
    simp only [impl_IsSchema.l0]
    refine Ev.neg (by omega) (Ev.const ?_)
    rw [List.drop_of_length_le (by omega)]
    have : (if i = 0 then 0 - 1 else 0) = 0 := by split <;> rfl
    rw [this]
    simp [asc]
    omega
  | succ m ih =>
    intro i hi
    have hlt : i < xs.length := by omega
    have e : xs.getD i z53 = xs[i] := by simp [List.getD_eq_getElem?_getD, hlt]
    have hm := mem_getD xs z53 i hlt
    have ih' := ih (i + 1) (by omega)
    refine Ev.up ?_
    simp only [impl_IsSchema.l0, w1' hlt hx]
    refine Ev.pos (by omega) (Ev.pos (by omega) (Ev.pos (by omega) ?_))
    rw [List.drop_eq_getElem_cons hlt, List.all_cons, ← e]
    refine Ev.bind (impl_IsName_ev _ (hs _ hm).1) ?_
    unfold okTD at ih' ⊢
    refine Ev.cases (fun h => ?_) (fun h => ?_)
    · rw [show isName (xs.getD i z53).f0 = true from h, Bool.true_and]
      refine Ev.bind (impl_IsRow_ev _ (hs _ hm).2 (hn _ hm)) ?_
      refine Ev.cases (fun h2 => ?_) (fun h2 => ?_)
      · rw [show vR (xs.getD i z53).f1 = true from h2, Bool.true_and]
        have hmax : max (i + 1) 1 = i + 1 := by omega
        rw [hmax, if_neg (by omega)] at ih'
        by_cases h0 : i = 0
        · subst h0
          refine Ev.neg (by omega) ?_
          rw [if_pos rfl]
          exact ih'
        · refine Ev.pos (by omega) ?_
          rw [rdm (xs.map (fun y => y.f0)) i (by omega) (by omega)]
          refine Ev.pos (by omega) (Ev.pos (by omega) ?_)
          rw [if_neg h0, show max i 1 = i by omega, asc_nms xs i m (by omega) (by omega)]
          refine Ev.cases (fun h3 => ?_) (fun h3 => ?_)
          · rw [h3, Bool.true_and]; exact ih'
          · rw [Bool.eq_false_iff.2 h3, Bool.false_and, Bool.and_false, Bool.and_false]; exact Ev.now _
      · rw [show vR (xs.getD i z53).f1 = false from Bool.eq_false_iff.2 h2]; exact Ev.const (by simp)
    · rw [show isName (xs.getD i z53).f0 = false from Bool.eq_false_iff.2 h]; exact Ev.const (by simp)
theorem IsSchema_same (x : S33) (hs : SmSchema x) (hn : ∀ y ∈ x.f0, ndType y.f1 ≤ 1048577) : Same (fun k => spec_IsSchema.f k x.f0) (fun k => impl_IsSchema.f k x.f0) := ⟨_, spec_IsSchema_ev x.f0 hs.1 hs.2 hn, impl_IsSchema_ev x.f0 hs.1 hs.2 hn⟩

end Go.Proofs.Ytfbecaplnigmaaa.Px
end
section
namespace Go.Proofs.Ytfbecaplnigmaaa.Px
open Go.RowKit Go.Proofs.YtfbecaplnigmaaaW.PrintWords Go.Proofs.YtfbecaplnigmaaaW.PrintLast Go.Proofs.Ytfbecaplnigmaaa.Pl Go.Proofs.Ytfbecaplnigmaaa.Ext
set_option linter.unusedVariables false
set_option linter.unusedSimpArgs false
theorem rowsDB (S : List S53) (D : List S47) (i : Nat) (hi : i < S.length) (hS : S.length ≤ 1048576) (ht : SmType (S.getD i z53).f1) (hm : ndType (S.getD i z53).f1 ≤ 1048577) (rows : List S56) (hr : rows.length ≤ 1048576) (hv : ∀ y ∈ rows, SmValue y) (hn : ∀ y ∈ rows, ndValue y ≤ 1048577) : ∀ m j, j + m = rows.length → ∃ b : Bool, (∀ c, Ev (fun k => spec_IsDB.l0 k ((i + 1 : Nat) : Int) S D) c → Ev (fun k => spec_IsDB.l1 k (i : Int) rows (j : Int) S D) (if b = true then c else false)) ∧ ∃ r : Int, Ev (fun k => slices_IndexFunc_Value_of_IsDB_1.l0 k rows (rows.length : Int) (j : Int) (rd_T53 S (i : Int)).f0 (rd_T53 S (i : Int)).f1.f0 (rd_T53 S (i : Int)).f1.f1 (rd_T53 S (i : Int)).f1.f2) r ∧ decide (r ≥ 0) = !b := by
  intro m
  induction m with
  | zero =>
    intro j hj
    refine ⟨true, fun c hc => Ev.up ?_, -1, Ev.up ?_, by decide⟩
    · simp only [spec_IsDB.l1, w1' hi hS]
      exact Ev.neg (by omega) (by simpa using hc)
    · simp only [slices_IndexFunc_Value_of_IsDB_1.l0]; exact Ev.neg (by omega) (Ev.now _)
  | succ m ihm =>
    intro j hj
    have hlt : j < rows.length := by omega
    obtain ⟨b, q1, q2⟩ := HasType_same (rows.getD j z56) (hv _ (mem_getD rows z56 j hlt)) (hn _ (mem_getD rows z56 j hlt)) (S.getD i z53).f1 ht hm
    have q3 : Ev (fun k => impl_IsDB_1.f k (rd_T56 rows (j : Int)).f0 (rd_T56 rows (j : Int)).f1 (rd_T56 rows (j : Int)).f2 (rd_T56 rows (j : Int)).f3 (rd_T53 S (i : Int)).f0 (rd_T53 S (i : Int)).f1.f0 (rd_T53 S (i : Int)).f1.f1 (rd_T53 S (i : Int)).f1.f2) (!b) := by
      simp only [impl_IsDB_1.f]
      exact Ev.bind q2 (Ev.now _)
    cases b with
    | false =>
      refine ⟨false, fun c hc => Ev.up ?_, (j : Int), Ev.up ?_, by simp⟩
      · simp only [spec_IsDB.l1]
        exact Ev.pos (by omega) (Ev.pos (by omega) (Ev.pos (by omega) (Ev.pos (by omega) (Ev.bind q1 (Ev.neg (by decide) (Ev.now _))))))
      · simp only [slices_IndexFunc_Value_of_IsDB_1.l0]
        exact Ev.pos (by omega) (Ev.pos (by omega) (Ev.pos (by omega) (Ev.bind q3 (Ev.pos rfl (Ev.now _)))))
    | true =>
      obtain ⟨b, r1, r, r2, r3⟩ := ihm (j + 1) (by omega)
      refine ⟨b, fun c hc => Ev.up ?_, r, Ev.up ?_, r3⟩
      · simp only [spec_IsDB.l1, w1' hlt hr]
        exact Ev.pos (by omega) (Ev.pos (by omega) (Ev.pos (by omega) (Ev.pos (by omega) (Ev.bind q1 (Ev.pos rfl (r1 c hc))))))
      · simp only [slices_IndexFunc_Value_of_IsDB_1.l0, w1' hlt hr]
        exact Ev.pos (by omega) (Ev.pos (by omega) (Ev.pos (by omega) (Ev.bind q3 (Ev.neg (by decide) r2))))
theorem IsDB_same (x : S33) (hs : SmSchema x) (d : S37) (hd : SmDB d) (hn : ∀ y ∈ x.f0, ndType y.f1 ≤ 1048577) (hv : ∀ y ∈ d.f0, ∀ v ∈ y.f1, ndValue v ≤ 1048577) : Same (fun k => spec_IsDB.f k x.f0 d.f0) (fun k => impl_IsDB.f k x.f0 d.f0) := by
  have spno : Ev (fun k => spec_IsDB.j0 k true x.f0 d.f0) false := by
    refine Ev.up ?_
    simp only [spec_IsDB.j0]
    exact Ev.pos (by simp) (Ev.now _)
  have imno : Ev (fun k => impl_IsDB.j0 k true x.f0 d.f0) false := by
    refine Ev.up ?_
    simp only [impl_IsDB.j0]
    exact Ev.pos (by simp) (Ev.now _)
  simp only [spec_IsDB.f, impl_IsDB.f]
  refine Same.bind (IsSchema_same x hs hn) (fun t _ _ => Same.ite Iff.rfl (fun _ => ?_) (fun _ => ⟨false, spno, imno⟩))
  by_cases hl : (x.f0.length : Int) = (d.f0.length : Int)
  · rw [show ((x.f0.length : Int) != (d.f0.length : Int)) = false from by simpa using hl, show ((d.f0.length : Int) != (x.f0.length : Int)) = false from by simpa using hl.symm]
    refine Same.up ?_
    simp only [spec_IsDB.j0, impl_IsDB.j0]
    refine Same.neg (by decide) (by decide) ?_
    refine Same.loop0 x.f0.length (fun k i => spec_IsDB.l0 k (i : Int) x.f0 d.f0) (fun k i => impl_IsDB.l0 k d.f0 (d.f0.length : Int) (i : Int) x.f0) ?_ (fun i hi ihl => ?_)
    · refine Same.up ?_
      simp only [spec_IsDB.l0, impl_IsDB.l0]
      exact Same.neg (by omega) (by omega) (Same.ret rfl)
    · have hid : i < d.f0.length := by omega
      have m1 := mem_getD x.f0 z53 i hi
      have m2 := mem_getD d.f0 z47 i hid
      obtain ⟨b, r1, r, r2, r3⟩ := rowsDB x.f0 d.f0 i hi hs.1 (hs.2 _ m1).2 (hn _ m1) (d.f0.getD i z47).f1 (hd.2 _ m2).2.1 (hd.2 _ m2).2.2 (hv _ m2) (d.f0.getD i z47).f1.length 0 (by omega)
      obtain ⟨c, c1, c2⟩ := ihl
      refine Same.up ?_
      simp only [spec_IsDB.l0, impl_IsDB.l0, w1' hid hd.1]
      refine Same.pos (by omega) (by omega) (Same.pos (by omega) (by omega) (Same.pos (by omega) (by omega) (Same.posR (by omega) ?_)))
      have no2 : Ev (fun k => spec_IsDB.j2 k (i : Int) (rd_T47 d.f0 (i : Int)).f1 true x.f0 d.f0) false := by
        refine Ev.up ?_
        simp only [spec_IsDB.j2]
        exact Ev.pos (by simp) (Ev.now _)
      refine Same.ite Iff.rfl (fun _ => ?_) (fun _ => ⟨false, no2, Ev.now _⟩)
      by_cases h8 : ((rd_T47 d.f0 (i : Int)).f1.length : Int) > 8
      · rw [decide_eq_true h8]
        exact ⟨false, no2, Ev.pos h8 (Ev.now _)⟩
      · rw [decide_eq_false h8]
        refine ⟨if b = true then c else false, Ev.up ?_, Ev.neg h8 ?_⟩
        · simp only [spec_IsDB.j2]
          exact Ev.neg (by decide) (r1 c c1)
        · simp only [slices_ContainsFunc_Value_of_IsDB_1.f, slices_IndexFunc_Value_of_IsDB_1.f]
          refine Ev.bind (Ev.bind r2 (Ev.now _)) ?_
          rw [r3]
          cases b with
          | false => exact Ev.pos rfl (Ev.now _)
          | true => exact Ev.neg (by decide) c2
  · rw [show ((x.f0.length : Int) != (d.f0.length : Int)) = true from by simpa using hl, show ((d.f0.length : Int) != (x.f0.length : Int)) = true from by simpa using fun h => hl h.symm]
    exact ⟨false, spno, imno⟩

end Go.Proofs.Ytfbecaplnigmaaa.Px
end
section
namespace Go.Proofs.Ytfbecaplnigmaaa.Pure
open Go.RowKit Go.Proofs.Ytfbecaplnigmaaa.Px Go.Proofs.YtfbecaplnigmaaaW.PrintWords Go.Proofs.YtfbecaplnigmaaaW.PrintLast Go.Proofs.Ytfbecaplnigmaaa.Pl
set_option linter.unusedVariables false
set_option linter.unusedSimpArgs false
theorem FnExactIsDB_all (x0 : S24) (hW0 : W24 x0) (x1 : S27) (hW1 : W27 x1) : Ev (fun k => laws_FnExactIsDB.f k x0.f0 x1.f0) true := by
  simp only [laws_FnExactIsDB.f]
  have hb0 : (0 : Int) ≤ (1048576 : Int) ∧ (1048576 : Int) ≤ 1048576 := ⟨by omega, by omega⟩
  refine Ev.bind (szSchema_ev x0 hW0 _ hb0.1 hb0.2) ?_
  by_cases hc0 : cut (wtSchema x0) (1048576 : Int) < 0
  · exact Ev.pos hc0 (Ev.now _)
  refine Ev.neg hc0 ?_
  have hw0 : (wtSchema x0 : Nat) ≤ 1048576 := by
    have := (not_congr (cut_neg (n := wtSchema x0))).1 hc0
    have h2 := hb0
    omega
  have hb1 : (0 : Int) ≤ (cut (wtSchema x0) (1048576 : Int)) ∧ (cut (wtSchema x0) (1048576 : Int)) ≤ 1048576 := ⟨by omega, by have := cut_le (n := wtSchema x0) hb0.1; omega⟩
  refine Ev.bind (szDB_ev x1 hW1 _ hb1.1 hb1.2) ?_
  by_cases hc1 : cut (wtDB x1) (cut (wtSchema x0) (1048576 : Int)) < 0
  · exact Ev.pos hc1 (Ev.now _)
  refine Ev.neg hc1 ?_
  have hw1 : (wtDB x1 : Nat) ≤ 1048576 := by
    have := (not_congr (cut_neg (n := wtDB x1))).1 hc1
    have h2 := hb1
    omega
  obtain ⟨r, h1, h2⟩ := IsDB_same (cvSchema x0) (smSchema_of x0 hW0 hw0) (cvDB x1) (smDB_of x1 hW1 hw1) (fun y hy => by rw [cvSchema_eq] at hy; dsimp only at hy; rw [cvTableDeclS_map] at hy; obtain ⟨z, hz, rfl⟩ := List.mem_map.1 hy; have h1 := ndType_cv z.f1; have h2 := sum_le_of_mem wtTableDecl hz; rw [← wtTableDeclS_sum] at h2; have h3 := hw0; rw [wtSchema_eq] at h3; rw [wtTableDecl_eq] at h2; rw [cvTableDecl_eq]; dsimp only; omega) (fun y hy v hv => by rw [cvDB_eq] at hy; dsimp only at hy; rw [cvTableDataS_map] at hy; obtain ⟨z, hz, rfl⟩ := List.mem_map.1 hy; rw [cvTableData_eq] at hv; dsimp only at hv; rw [cvValueS_map] at hv; obtain ⟨u, hu, rfl⟩ := List.mem_map.1 hv; have h1 := ndValue_cv u; have h2 := sum_le_of_mem wtTableData hz; rw [← wtTableDataS_sum] at h2; have h3 := hw1; rw [wtDB_eq] at h3; rw [wtTableData_eq] at h2; have h4 := sum_le_of_mem wtValue hu; rw [← wtValueS_sum] at h4; omega)
  refine Ev.bind (toSchema_ev x0 hw0) ?_
  refine Ev.bind (toDB_ev x1 hw1) ?_
  first | refine Ev.bind h1 ?_ | (obtain ⟨k1_, h1_⟩ := h1.rounds; refine Ev.fix h1_ ?_)
  refine Ev.bind (toSchema_ev x0 hw0) ?_
  refine Ev.bind (toDB_ev x1 hw1) ?_
  first | refine Ev.bind h2 ?_ | (obtain ⟨k2_, h2_⟩ := h2.rounds; refine Ev.fix h2_ ?_)
  first | refine Ev.pos rfl ?_ | refine Ev.neg (by simp) ?_ | refine Ev.pos (by simp) ?_
  refine Ev.bind (toSchema_ev x0 hw0) ?_
  refine Ev.bind (eqSchema_ev _ (smSchema_of x0 hW0 hw0)) ?_
  refine Ev.pos rfl ?_
  refine Ev.bind (toDB_ev x1 hw1) ?_
  refine Ev.bind (eqDB_ev _ (smDB_of x1 hW1 hw1)) ?_
  refine Ev.pos rfl ?_
  exact Ev.now _
theorem FnExactIsDB : laws_FnExactIsDB.Pure := by
  intro v0_0 v1_0 h0 h1
  exact (FnExactIsDB_all ⟨v0_0⟩ h0 ⟨v1_0⟩ h1).rounds
end Go.Proofs.Ytfbecaplnigmaaa.Pure
end
section
namespace Go.Proofs.Ytfbecaplnigmaaa.Rd
open Go.RowKit Go.Proofs.YtfbecaplnigmaaaW.PrintWords
set_option linter.unusedVariables false
/-- What reads as_ data of type t, by at most n steps, is of kind d and meets q. -/
def Op (P : Program) (n : Nat) (t : TypeId) {α : Type} (d : Kd α) (q : α → Prop) : Prop :=
  ∀ (H : Type) (enc : TypeId × Value → H) (w : World) (base : Nat) (spare : Nat → Bool) (held : Bool) (fuel : Nat) (cs : List Value) (x : DataW H × List MemPlace),
    fuel ≤ n → DataW.trod enc P w base spare held fuel t cs = some x → ∃ y, d.K w y cs ∧ q y
theorem Op.imp {P : Program} {n : Nat} {t : TypeId} {α : Type} {d d' : Kd α} {q q' : α → Prop} (h1 : ∀ w y cs, d.K w y cs → d'.K w y cs) (h2 : ∀ y, q y → q' y) (h : Op P n t d q) : Op P n t d' q' := by
  intro H enc w base spare held fuel cs x hf hx
  obtain ⟨y, hy, hq⟩ := h H enc w base spare held fuel cs x hf hx
  exact ⟨y, h1 _ _ _ hy, h2 _ hq⟩
theorem Op.iso {P : Program} {n : Nat} {t : TypeId} {α β : Type} {d : Kd α} {q : α → Prop} {f : β → α} (g : α → β) (hg : ∀ y, f (g y) = y) (h : Op P n t d q) : Op P n t (Kd.iso d f) (fun x => q (f x)) := by
  intro H enc w base spare held fuel cs x hf hx
  obtain ⟨y, hy, hq⟩ := h H enc w base spare held fuel cs x hf hx
  refine ⟨g y, ?_, ?_⟩
  · show d.K w (f (g y)) cs
    rw [hg]; exact hy
  · show q (f (g y))
    rw [hg]; exact hq
theorem Op.int {P : Program} {n : Nat} {t : TypeId} {k : IntKind} (ht : P.underlying t = some (.int k)) : Op P n t (Kd.int k) (fun x => (Lit.int k x).wf = true) := by
  intro H enc w base spare held fuel cs x hf hx
  obtain ⟨m, rfl, rfl, hw⟩ := DataW.trod_int ht hx
  exact ⟨m, rfl, hw⟩
theorem Op.bool {P : Program} {n : Nat} {t : TypeId} (ht : P.underlying t = some .bool) : Op P n t Kd.bool (fun _ => True) := by
  intro H enc w base spare held fuel cs x hf hx
  obtain ⟨m, rfl, rfl⟩ := DataW.trod_bool ht hx
  exact ⟨m, rfl, trivial⟩
theorem trod_string' {H : Type} {enc : TypeId × Value → H} {P : Program} {w : World} {base : Nat} {spare : Nat → Bool} {held : Bool} {fuel : Nat} {t : TypeId} {cs : List Value} {x : DataW H × List MemPlace}
    (ht : P.underlying t = some .string) (h : DataW.trod enc P w base spare held fuel t cs = some x) : ∃ s, cs = [.string s] ∧ s.size ≤ maxLen := by
  cases fuel with
  | zero => simp [DataW.trod] at h
  | succ n =>
    unfold DataW.trod at h
    rw [ht] at h
    split at h <;> simp_all
theorem Op.string {P : Program} {n : Nat} {t : TypeId} (ht : P.underlying t = some .string) : Op P n t Kd.string (fun s => s.size ≤ maxLen) := by
  intro H enc w base spare held fuel cs x hf hx
  obtain ⟨m, rfl, hm⟩ := trod_string' ht hx
  exact ⟨m, rfl, hm⟩
theorem add_add (a : Addr) (i j : Nat) : (a.add i).add j = a.add (i + j) := by
  unfold Addr.add
  by_cases h1 : i = 0 <;> by_cases h2 : j = 0 <;> simp [h1, h2, Nat.add_assoc]
theorem choose_list {α : Type} {p : Nat → α → Prop} (n : Nat) (h : ∀ i, i < n → ∃ y, p i y) : ∃ ys : List α, ys.length = n ∧ ∀ i y, ys[i]? = some y → p i y := by
  induction n with
  | zero => exact ⟨[], rfl, fun i y hy => by simp at hy⟩
  | succ n ih =>
    obtain ⟨ys, hl, hy⟩ := ih (fun i hi => h i (by omega))
    obtain ⟨z, hz⟩ := h n (by omega)
    refine ⟨ys ++ [z], by simp [hl], fun i y hi => ?_⟩
    by_cases hlt : i < n
    · rw [List.getElem?_append_left (by omega)] at hi
      exact hy i y hi
    · by_cases he : i = n
      · subst he
        rw [List.getElem?_append_right (by omega)] at hi
        simp [hl] at hi
        subst hi
        exact hz
      · rw [List.getElem?_eq_none (by simp; omega)] at hi
        cases hi
theorem Op.slice {P : Program} {n : Nat} {t e : TypeId} {α : Type} {d : Kd α} {q : α → Prop} (ht : P.underlying t = some (.slice e)) (hsz : P.cellsOf e = d.sz) (h : ∀ k, k < n → Op P k e d q) :
    Op P n t (Kd.slice e d) (fun xs => xs.length ≤ maxLen ∧ ∀ y ∈ xs, q y) := by
  intro H enc w base spare held fuel cs x hf hx
  rcases DataW.trod_slice ht hx with ⟨rfl, _⟩ | ⟨a, len, cap, elems, rest, m, hm, rfl, _, hb, hl, hc, hlen, hel, _, _⟩
  · exact ⟨[], ⟨none, 0, rfl, Nat.le_refl _, ⟨rfl, by simp, fun hp => absurd hp (by simp)⟩⟩, by simp, fun y hy => by simp at hy⟩
  · have hone : ∀ i, i < len → ∃ y, (∃ c, c.length = d.sz ∧ d.K w y c ∧ ∀ j u, c[j]? = some u → w.cell? (a.add (i * d.sz + j)) = some u) ∧ q y := by
      intro i hi
      have h1 := hel i hi
      rw [List.getElem?_eq_getElem (by omega)] at h1
      obtain ⟨c, hc1, hc2⟩ := Option.bind_eq_some_iff.1 h1
      obtain ⟨y, hy, hq⟩ := h m (by omega) H enc w base spare held m c _ (Nat.le_refl _) hc2
      obtain ⟨_, hcl, hcells⟩ := World.cells?_some hc1
      refine ⟨y, ⟨c, by omega, hy, fun j u hu => ?_⟩, hq⟩
      have hj : j < P.cellsOf e := by
        rw [← hcl]
        exact (List.getElem?_eq_some_iff.1 hu).1
      have := hcells j hj
      rw [add_add, hsz] at this
      rw [this, hu]
    obtain ⟨ys, hyl, hys⟩ := choose_list len hone
    have hmx : len ≤ 9223372036854775807 := by
      have : cap ≤ 9223372036854775807 := hc
      omega
    refine ⟨ys, ⟨some a, cap, by rw [hyl], by omega, ⟨rfl, by omega, fun _ => ⟨a, rfl, fun j p hj => (hys j p hj).1⟩⟩⟩, by rw [hyl]; exact hmx, fun y hy => ?_⟩
    obtain ⟨i, hi, rfl⟩ := List.getElem_of_mem hy
    exact (hys i _ (List.getElem?_eq_getElem hi)).2
/-- Fields, from an offset on. -/
def OpF (P : Program) (n : Nat) (fs : List Field) (off : Nat) {α : Type} (d : Kd α) (q : α → Prop) : Prop :=
  ∀ (H : Type) (enc : TypeId × Value → H) (w : World) (base : Nat) (spare : Nat → Bool) (held : Bool) (fuel : Nat) (cs : List Value), fuel ≤ n →
    (∀ f ∈ fs, ∃ x, DataW.trod enc P w base spare held fuel f.type ((cs.drop f.offset).take (P.cellsOf f.type)) = some x) → cs.length = off + d.sz → ∃ y, d.K w y (cs.drop off) ∧ q y
theorem OpF.one {P : Program} {n : Nat} {f : Field} {off : Nat} {α : Type} {d : Kd α} {q : α → Prop} (ho : f.offset = off) (hsz : P.cellsOf f.type = d.sz) (h : Op P n f.type d q) : OpF P n [f] off d q := by
  intro H enc w base spare held fuel cs hf hx hl
  obtain ⟨x, hx⟩ := hx f (List.mem_singleton.2 rfl)
  rw [ho, hsz, List.take_of_length_le (by rw [List.length_drop]; omega)] at hx
  exact h H enc w base spare held fuel _ x hf hx
theorem OpF.cons {P : Program} {n : Nat} {f : Field} {fs : List Field} {off : Nat} {α β : Type} {a : Kd α} {b : Kd β} {qa : α → Prop} {qb : β → Prop} (ho : f.offset = off) (hsz : P.cellsOf f.type = a.sz) (h : Op P n f.type a qa) (hr : OpF P n fs (off + a.sz) b qb) :
    OpF P n (f :: fs) off (Kd.pair a b) (fun y => qa y.1 ∧ qb y.2) := by
  intro H enc w base spare held fuel cs hf hx hl
  have hl' : cs.length = off + (a.sz + b.sz) := hl
  obtain ⟨x, h1⟩ := hx f (List.mem_cons_self ..)
  rw [ho, hsz] at h1
  obtain ⟨y, hy, hq⟩ := h H enc w base spare held fuel _ x hf h1
  obtain ⟨z, hz, hq2⟩ := hr H enc w base spare held fuel cs hf (fun g hg => hx g (List.mem_cons_of_mem _ hg)) (by omega)
  refine ⟨(y, z), ⟨_, _, ?_, hy, hz⟩, hq, hq2⟩
  rw [← List.drop_drop, List.take_append_drop]
theorem Op.struct {P : Program} {n : Nat} {t : TypeId} {fs : Array Field} {α : Type} {d : Kd α} {q : α → Prop} (ht : P.underlying t = some (.struct fs)) (hsz : P.cellsOf t = d.sz) (h : ∀ k, k < n → OpF P k fs.toList 0 d q) : Op P n t d q := by
  intro H enc w base spare held fuel cs x hf hx
  obtain ⟨xs, m, hm, _, hl, hxl, hfs⟩ := DataW.trod_struct ht hx
  have hr := h m (by omega) H enc w base spare held m cs (Nat.le_refl _) (fun f hfm => ?_) (by omega)
  · simpa using hr
  · obtain ⟨i, hi, rfl⟩ := List.getElem_of_mem hfm
    have hi' : i < fs.size := by simpa using hi
    have h2 := hfs i _ (Array.getElem?_eq_getElem hi')
    rw [List.getElem?_eq_getElem (by omega)] at h2
    exact ⟨_, by simpa using h2⟩
/-- The same at whatever fuel. -/
theorem Op.open_ {P : Program} {t : TypeId} {α : Type} {d : Kd α} {q : α → Prop} (h : ∀ n, Op P n t d q) {H : Type} {enc : TypeId × Value → H} {w : World} {base : Nat} {spare : Nat → Bool} {held : Bool} {v : Value} {x : DataW H} {ps : List MemPlace}
    (ht : DataW.Trod enc P w base spare held t v x ps) : ∃ y, d.K w y v.cells.toList ∧ q y := by
  obtain ⟨fuel, hf⟩ := ht
  exact h fuel H enc w base spare held fuel _ _ (Nat.le_refl _) hf
end Go.Proofs.Ytfbecaplnigmaaa.Rd
end
section
namespace Go.Proofs.Ytfbecaplnigmaaa.Px
open Go.RowKit Go.Proofs.Ytfbecaplnigmaaa.Ext Go.Proofs.YtfbecaplnigmaaaW.PrintWords Go.Proofs.YtfbecaplnigmaaaW.PrintLast Go.Proofs.YtfbecaplnigmaaaW.PrintMore Go.Proofs.Ytfbecaplnigmaaa
set_option linter.unusedVariables false
set_option linter.unusedSimpArgs false

theorem fold67 : ∀ (w : World) (x : S67) (cs : List Value), (F67 k67).K w x cs → k67.K w x cs := by
  intro w x cs h
  obtain ⟨_, _, rfl, rfl, ⟨_, _, rfl, ⟨A1, c1, rfl, l1, g1⟩, ⟨A2, c2, rfl, l2, g2⟩⟩⟩ := h
  exact k67_mk w x l1 g1 l2 g2
theorem op67 : ∀ n, Rd.Op Try.prog n 67 k67 W67 := by
  intro n
  induction n using Nat.strongRecOn with
  | _ n ih =>
  exact Rd.Op.imp (d := F67 k67) fold67 (fun x h => W67.mk h.1 h.2.1 h.2.2.1 h.2.2.2) (Rd.Op.iso (g := fun p => ⟨p.1, p.2.1, p.2.2⟩) (fun _ => rfl) (Rd.Op.struct Try.underlying67 (by kernel_rfl) (fun j0 hj0 => (Rd.OpF.cons rfl (by kernel_rfl) (Rd.Op.int Try.underlying3) (Rd.OpF.cons rfl (by kernel_rfl) (Rd.Op.slice Try.underlying48 (by kernel_rfl) (fun j1 hj1 => (Rd.Op.string Try.underlying9))) (Rd.OpF.one rfl (by kernel_rfl) (Rd.Op.slice Try.underlying65 (by kernel_rfl) (fun j1 hj1 => ih j1 (by omega)))))))))
theorem op69 : ∀ n, Rd.Op Try.prog n 69 k69 W69 := by
  intro n
  exact Rd.Op.imp (d := k69) (fun _ _ _ h => h) (fun x h => h) (Rd.Op.iso (g := fun p => ⟨p.1, p.2⟩) (fun _ => rfl) (Rd.Op.struct Try.underlying69 (by kernel_rfl) (fun j0 hj0 => (Rd.OpF.cons rfl (by kernel_rfl) (Rd.Op.string Try.underlying9) (Rd.OpF.one rfl (by kernel_rfl) (op67 _))))))
theorem fold105 : ∀ (w : World) (x : S105) (cs : List Value), (F105 k105).K w x cs → k105.K w x cs := by
  intro w x cs h
  obtain ⟨_, _, rfl, rfl, ⟨_, _, rfl, rfl, ⟨_, _, rfl, ⟨A2, c2, rfl, l2, g2⟩, ⟨A3, c3, rfl, l3, g3⟩⟩⟩⟩ := h
  exact k105_mk w x l2 g2 l3 g3
theorem op105 : ∀ n, Rd.Op Try.prog n 105 k105 W105 := by
  intro n
  induction n using Nat.strongRecOn with
  | _ n ih =>
  exact Rd.Op.imp (d := F105 k105) fold105 (fun x h => W105.mk h.1 h.2.1 h.2.2.1 h.2.2.2.1 h.2.2.2.2) (Rd.Op.iso (g := fun p => ⟨p.1, p.2.1, p.2.2.1, p.2.2.2⟩) (fun _ => rfl) (Rd.Op.struct Try.underlying105 (by kernel_rfl) (fun j0 hj0 => (Rd.OpF.cons rfl (by kernel_rfl) (Rd.Op.int Try.underlying3) (Rd.OpF.cons rfl (by kernel_rfl) (Rd.Op.int Try.underlying3) (Rd.OpF.cons rfl (by kernel_rfl) (Rd.Op.slice Try.underlying48 (by kernel_rfl) (fun j1 hj1 => (Rd.Op.string Try.underlying9))) (Rd.OpF.one rfl (by kernel_rfl) (Rd.Op.slice Try.underlying71 (by kernel_rfl) (fun j1 hj1 => ih j1 (by omega))))))))))
theorem op73 : ∀ n, Rd.Op Try.prog n 73 k73 W73 := by
  intro n
  exact Rd.Op.imp (d := k73) (fun _ _ _ h => h) (fun x h => h) (Rd.Op.iso (g := fun p => ⟨p.1, p.2⟩) (fun _ => rfl) (Rd.Op.struct Try.underlying73 (by kernel_rfl) (fun j0 hj0 => (Rd.OpF.cons rfl (by kernel_rfl) (Rd.Op.string Try.underlying9) (Rd.OpF.one rfl (by kernel_rfl) (Rd.Op.slice Try.underlying71 (by kernel_rfl) (fun j1 hj1 => (op105 _))))))))
theorem op24 : ∀ n, Rd.Op Try.prog n 24 k24 W24 := by
  intro n
  exact Rd.Op.imp (d := k24) (fun _ _ _ h => h) (fun x h => h) (Rd.Op.iso (g := fun p => ⟨p⟩) (fun _ => rfl) (Rd.Op.struct Try.underlying24 (by kernel_rfl) (fun j0 hj0 => (Rd.OpF.one rfl (by kernel_rfl) (Rd.Op.slice Try.underlying22 (by kernel_rfl) (fun j1 hj1 => (op69 _)))))))
theorem op27 : ∀ n, Rd.Op Try.prog n 27 k27 W27 := by
  intro n
  exact Rd.Op.imp (d := k27) (fun _ _ _ h => h) (fun x h => h) (Rd.Op.iso (g := fun p => ⟨p⟩) (fun _ => rfl) (Rd.Op.struct Try.underlying27 (by kernel_rfl) (fun j0 hj0 => (Rd.OpF.one rfl (by kernel_rfl) (Rd.Op.slice Try.underlying25 (by kernel_rfl) (fun j1 hj1 => (op73 _)))))))
end Go.Proofs.Ytfbecaplnigmaaa.Px
end
