/- The law FnExactDepthOfType answers true at every input: its pure statement. No condition. -/
import Derived.Test.YtipjapiifnoimaaPx0
import Derived.Test.YtipjapiifnoimaaPx3
import Derived.Test.YtipjapiifnoimaaPxDepthT
import Derived.Test.YtipjapiifnoimaaPxFType
import Derived.Test.YtipjapiifnoimaaPl
namespace Go.Proofs.Ytipjapiifnoimaa.Pure
open Go.RowKit Go.Proofs.Ytipjapiifnoimaa.Px Go.Proofs.YtipjapiifnoimaaW.PrintWords Go.Proofs.YtipjapiifnoimaaW.PrintLast Go.Proofs.Ytipjapiifnoimaa.Pl
set_option linter.unusedVariables false
set_option linter.unusedSimpArgs false
theorem FnExactDepthOfType_all (x0 : S25) (hW0 : W25 x0) : Ev (fun k => laws_FnExactDepthOfType.f k x0.f0 x0.f1 x0.f2) true := by
  simp only [laws_FnExactDepthOfType.f]
  have hb0 : (0 : Int) ≤ (1048576 : Int) ∧ (1048576 : Int) ≤ 1048576 := ⟨by omega, by omega⟩
  refine Ev.bind (szType_ev x0 hW0 _ hb0.1 hb0.2) ?_
  by_cases hc0 : cut (wtType x0) (1048576 : Int) < 0
  · exact Ev.pos hc0 (Ev.now _)
  refine Ev.neg hc0 ?_
  have hw0 : (wtType x0 : Nat) ≤ 1048576 := by
    have := (not_congr (cut_neg (n := wtType x0))).1 hc0
    have h2 := hb0
    omega
  obtain ⟨r, h1, h2⟩ := DepthOfType_same (cvType x0) (smType_of x0 hW0 hw0) (by have := ndType_cv x0; omega)
  refine Ev.bind (toType_ev x0 hw0) ?_
  first | refine Ev.bind h1 ?_ | (obtain ⟨k1_, h1_⟩ := h1.rounds; refine Ev.fix h1_ ?_)
  refine Ev.bind (toType_ev x0 hw0) ?_
  first | refine Ev.bind h2 ?_ | (obtain ⟨k2_, h2_⟩ := h2.rounds; refine Ev.fix h2_ ?_)
  first | refine Ev.pos rfl ?_ | refine Ev.neg (by simp) ?_ | refine Ev.pos (by simp) ?_
  refine Ev.bind (toType_ev x0 hw0) ?_
  refine Ev.bind (eqType_ev _ (smType_of x0 hW0 hw0)) ?_
  refine Ev.pos rfl ?_
  exact Ev.now _
theorem FnExactDepthOfType : laws_FnExactDepthOfType.Pure := by
  intro v0_0 v0_1 v0_2 h0
  exact (FnExactDepthOfType_all ⟨v0_0, v0_1, v0_2⟩ h0).rounds
end Go.Proofs.Ytipjapiifnoimaa.Pure
