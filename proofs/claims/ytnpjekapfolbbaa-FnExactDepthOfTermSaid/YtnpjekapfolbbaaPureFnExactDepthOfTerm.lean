/- The law FnExactDepthOfTerm answers true at every input: its pure statement. No condition. -/
import Derived.Test.YtnpjekapfolbbaaPx0
import Derived.Test.YtnpjekapfolbbaaPx6
import Derived.Test.YtnpjekapfolbbaaPxDepthTe
import Derived.Test.YtnpjekapfolbbaaPxFTerm
import Derived.Test.YtnpjekapfolbbaaPl
namespace Go.Proofs.Ytnpjekapfolbbaa.Pure
open Go.RowKit Go.Proofs.Ytnpjekapfolbbaa.Px Go.Proofs.YtnpjekapfolbbaaW.PrintWords Go.Proofs.YtnpjekapfolbbaaW.PrintLast Go.Proofs.Ytnpjekapfolbbaa.Pl
set_option linter.unusedVariables false
set_option linter.unusedSimpArgs false
theorem FnExactDepthOfTerm_all (x0 : S28) (hW0 : W28 x0) : Ev (fun k => laws_FnExactDepthOfTerm.f k x0.f0 x0.f1 x0.f2 x0.f3.f0 x0.f3.f1 x0.f3.f2 x0.f4 x0.f5) true := by
  simp only [laws_FnExactDepthOfTerm.f]
  have hb0 : (0 : Int) ≤ (1048576 : Int) ∧ (1048576 : Int) ≤ 1048576 := ⟨by omega, by omega⟩
  refine Ev.bind (szTerm_ev x0 hW0 _ hb0.1 hb0.2) ?_
  by_cases hc0 : cut (wtTerm x0) (1048576 : Int) < 0
  · exact Ev.pos hc0 (Ev.now _)
  refine Ev.neg hc0 ?_
  have hw0 : (wtTerm x0 : Nat) ≤ 1048576 := by
    have := (not_congr (cut_neg (n := wtTerm x0))).1 hc0
    have h2 := hb0
    omega
  obtain ⟨r, h1, h2⟩ := DepthOfTerm_same (cvTerm x0) (smTerm_of x0 hW0 hw0) (by have := ndTerm_cv x0; omega)
  refine Ev.bind (toTerm_ev x0 hw0) ?_
  first | refine Ev.bind h1 ?_ | (obtain ⟨k1_, h1_⟩ := h1.rounds; refine Ev.fix h1_ ?_)
  refine Ev.bind (toTerm_ev x0 hw0) ?_
  first | refine Ev.bind h2 ?_ | (obtain ⟨k2_, h2_⟩ := h2.rounds; refine Ev.fix h2_ ?_)
  first | refine Ev.pos rfl ?_ | refine Ev.neg (by simp) ?_ | refine Ev.pos (by simp) ?_
  refine Ev.bind (toTerm_ev x0 hw0) ?_
  refine Ev.bind (eqTerm_ev _ (smTerm_of x0 hW0 hw0)) ?_
  refine Ev.pos rfl ?_
  exact Ev.now _
theorem FnExactDepthOfTerm : laws_FnExactDepthOfTerm.Pure := by
  intro v0_0 v0_1 v0_2 v0_3 v0_4 v0_5 v0_6 v0_7 h0
  exact (FnExactDepthOfTerm_all ⟨v0_0, v0_1, v0_2, ⟨v0_3, v0_4, v0_5⟩, v0_6, v0_7⟩ h0).rounds
end Go.Proofs.Ytnpjekapfolbbaa.Pure
