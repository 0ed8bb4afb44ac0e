/- The law FnExactCompareValues answers true at every input: its pure statement. No condition. -/
import Derived.Test.YtipjapiifnoimaaPx0
import Derived.Test.YtipjapiifnoimaaPx13
import Derived.Test.YtipjapiifnoimaaPxCmpV
import Derived.Test.YtipjapiifnoimaaPxFValue
import Derived.Test.YtipjapiifnoimaaPl
namespace Go.Proofs.Ytipjapiifnoimaa.Pure
open Go.RowKit Go.Proofs.Ytipjapiifnoimaa.Px Go.Proofs.YtipjapiifnoimaaW.PrintWords Go.Proofs.YtipjapiifnoimaaW.PrintLast Go.Proofs.Ytipjapiifnoimaa.Pl
set_option linter.unusedVariables false
set_option linter.unusedSimpArgs false
theorem FnExactCompareValues_all (x0 : S37) (hW0 : W37 x0) (x1 : S37) (hW1 : W37 x1) : Ev (fun k => laws_FnExactCompareValues.f k x0.f0 x0.f1 x0.f2 x0.f3 x1.f0 x1.f1 x1.f2 x1.f3) true := by
  simp only [laws_FnExactCompareValues.f]
  have hb0 : (0 : Int) ≤ (1048576 : Int) ∧ (1048576 : Int) ≤ 1048576 := ⟨by omega, by omega⟩
  refine Ev.bind (szValue_ev x0 hW0 _ hb0.1 hb0.2) ?_
  by_cases hc0 : cut (wtValue x0) (1048576 : Int) < 0
  · exact Ev.pos hc0 (Ev.now _)
  refine Ev.neg hc0 ?_
  have hw0 : (wtValue x0 : Nat) ≤ 1048576 := by
    have := (not_congr (cut_neg (n := wtValue x0))).1 hc0
    have h2 := hb0
    omega
  have hb1 : (0 : Int) ≤ (cut (wtValue x0) (1048576 : Int)) ∧ (cut (wtValue x0) (1048576 : Int)) ≤ 1048576 := ⟨by omega, by have := cut_le (n := wtValue x0) hb0.1; omega⟩
  refine Ev.bind (szValue_ev x1 hW1 _ hb1.1 hb1.2) ?_
  by_cases hc1 : cut (wtValue x1) (cut (wtValue x0) (1048576 : Int)) < 0
  · exact Ev.pos hc1 (Ev.now _)
  refine Ev.neg hc1 ?_
  have hw1 : (wtValue x1 : Nat) ≤ 1048576 := by
    have := (not_congr (cut_neg (n := wtValue x1))).1 hc1
    have h2 := hb1
    omega
  obtain ⟨r, h1, h2⟩ := CompareValues_same (cvValue x0) (smValue_of x0 hW0 hw0) (by have := ndValue_cv x0; omega) (cvValue x1) (smValue_of x1 hW1 hw1) (by have := ndValue_cv x1; omega)
  refine Ev.bind (toValue_ev x0 hw0) ?_
  refine Ev.bind (toValue_ev x1 hw1) ?_
  first | refine Ev.bind h1 ?_ | (obtain ⟨k1_, h1_⟩ := h1.rounds; refine Ev.fix h1_ ?_)
  refine Ev.bind (toValue_ev x0 hw0) ?_
  refine Ev.bind (toValue_ev x1 hw1) ?_
  first | refine Ev.bind h2 ?_ | (obtain ⟨k2_, h2_⟩ := h2.rounds; refine Ev.fix h2_ ?_)
  first | refine Ev.pos rfl ?_ | refine Ev.neg (by simp) ?_ | refine Ev.pos (by simp) ?_
  refine Ev.bind (toValue_ev x0 hw0) ?_
  refine Ev.bind (eqValue_ev _ (smValue_of x0 hW0 hw0)) ?_
  refine Ev.pos rfl ?_
  refine Ev.bind (toValue_ev x1 hw1) ?_
  refine Ev.bind (eqValue_ev _ (smValue_of x1 hW1 hw1)) ?_
  refine Ev.pos rfl ?_
  exact Ev.now _
theorem FnExactCompareValues : laws_FnExactCompareValues.Pure := by
  intro v0_0 v0_1 v0_2 v0_3 v1_0 v1_1 v1_2 v1_3 h0 h1
  exact (FnExactCompareValues_all ⟨v0_0, v0_1, v0_2, v0_3⟩ h0 ⟨v1_0, v1_1, v1_2, v1_3⟩ h1).rounds
end Go.Proofs.Ytipjapiifnoimaa.Pure
