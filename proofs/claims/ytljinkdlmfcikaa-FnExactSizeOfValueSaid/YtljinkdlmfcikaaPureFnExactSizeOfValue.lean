/- The law FnExactSizeOfValue answers true at every input: its pure statement. No condition. -/
import Derived.Test.YtljinkdlmfcikaaPx0
import Derived.Test.YtljinkdlmfcikaaPx9
import Derived.Test.YtljinkdlmfcikaaPxFValue
import Derived.Test.YtljinkdlmfcikaaPxSizeV
import Derived.Test.YtljinkdlmfcikaaPl
namespace Go.Proofs.Ytljinkdlmfcikaa.Pure
open Go.RowKit Go.Proofs.Ytljinkdlmfcikaa.Px Go.Proofs.YtljinkdlmfcikaaW.PrintWords Go.Proofs.YtljinkdlmfcikaaW.PrintLast Go.Proofs.Ytljinkdlmfcikaa.Pl
set_option linter.unusedVariables false
set_option linter.unusedSimpArgs false
theorem FnExactSizeOfValue_all (x0 : S45) (hW0 : W45 x0) : Ev (fun k => laws_FnExactSizeOfValue.f k x0.f0 x0.f1 x0.f2 x0.f3) true := by
  simp only [laws_FnExactSizeOfValue.f]
  have hb0 : (0 : Int) ≤ (1048576 : Int) ∧ (1048576 : Int) ≤ 1048576 := ⟨by omega, by omega⟩
  refine Ev.bind (szValue_ev x0 hW0 _ hb0.1 hb0.2) ?_
  by_cases hc0 : cut (wtValue x0) (1048576 : Int) < 0
  · exact Ev.pos hc0 (Ev.now _)
  refine Ev.neg hc0 ?_
  have hw0 : (wtValue x0 : Nat) ≤ 1048576 := by
    have := (not_congr (cut_neg (n := wtValue x0))).1 hc0
    have h2 := hb0
    omega
  obtain ⟨r, h1, h2⟩ := SizeOfValue_same (cvValue x0) (smValue_of x0 hW0 hw0) (by have := ndValue_cv x0; omega)
  refine Ev.bind (toValue_ev x0 hw0) ?_
  first | refine Ev.bind h1 ?_ | (obtain ⟨k1_, h1_⟩ := h1.rounds; refine Ev.fix h1_ ?_)
  refine Ev.bind (toValue_ev x0 hw0) ?_
  first | refine Ev.bind h2 ?_ | (obtain ⟨k2_, h2_⟩ := h2.rounds; refine Ev.fix h2_ ?_)
  first | refine Ev.pos rfl ?_ | refine Ev.neg (by simp) ?_ | refine Ev.pos (by simp) ?_
  refine Ev.bind (toValue_ev x0 hw0) ?_
  refine Ev.bind (eqValue_ev _ (smValue_of x0 hW0 hw0)) ?_
  refine Ev.pos rfl ?_
  exact Ev.now _
theorem FnExactSizeOfValue : laws_FnExactSizeOfValue.Pure := by
  intro v0_0 v0_1 v0_2 v0_3 h0
  exact (FnExactSizeOfValue_all ⟨v0_0, v0_1, v0_2, v0_3⟩ h0).rounds
end Go.Proofs.Ytljinkdlmfcikaa.Pure
