/- The law FnExactAreAscending answers true at every input: its pure statement. No condition. -/
import Derived.Test.YtljinkdlmfcikaaPx3
import Derived.Test.YtljinkdlmfcikaaPxFString
import Derived.Test.YtljinkdlmfcikaaPxStrs
import Derived.Test.YtljinkdlmfcikaaPl
namespace Go.Proofs.Ytljinkdlmfcikaa.Pure
open Go.RowKit Go.Proofs.Ytljinkdlmfcikaa.Px Go.Proofs.YtljinkdlmfcikaaW.PrintWords Go.Proofs.YtljinkdlmfcikaaW.PrintLast Go.Proofs.Ytljinkdlmfcikaa.Pl
set_option linter.unusedVariables false
set_option linter.unusedSimpArgs false
theorem FnExactAreAscending_all (x0 : List ByteArray) (hW0 : x0.length ≤ maxLen ∧ ∀ y ∈ x0, y.size ≤ maxLen) : Ev (fun k => laws_FnExactAreAscending.f k x0) true := by
  simp only [laws_FnExactAreAscending.f]
  have hb0 : (0 : Int) ≤ (1048576 : Int) ∧ (1048576 : Int) ≤ 1048576 := ⟨by omega, by omega⟩
  refine Ev.bind (szStringS_ev x0 hW0 _ hb0.1 hb0.2) ?_
  by_cases hc0 : cut (wts x0) (1048576 : Int) < 0
  · exact Ev.pos hc0 (Ev.now _)
  refine Ev.neg hc0 ?_
  have hw0 : (wts x0 : Nat) ≤ 1048576 := by
    have := (not_congr (cut_neg (n := wts x0))).1 hc0
    have h2 := hb0
    omega
  obtain ⟨r, h1, h2⟩ := AreAscending_same x0 (by unfold wts at hw0; omega) (fun y hy => by have := sum_le_of_mem ByteArray.size hy; unfold wts szs at hw0; omega)
  refine Ev.bind (toStringS_ev x0 (by unfold wts at hw0; omega)) ?_
  first | refine Ev.bind h1 ?_ | (obtain ⟨k1_, h1_⟩ := h1.rounds; refine Ev.fix h1_ ?_)
  refine Ev.bind (toStringS_ev x0 (by unfold wts at hw0; omega)) ?_
  first | refine Ev.bind h2 ?_ | (obtain ⟨k2_, h2_⟩ := h2.rounds; refine Ev.fix h2_ ?_)
  first | refine Ev.pos rfl ?_ | refine Ev.neg (by simp) ?_ | refine Ev.pos (by simp) ?_
  refine Ev.bind (toStringS_ev x0 (by unfold wts at hw0; omega)) ?_
  refine Ev.bind (eqStringS_ev x0 (by unfold wts at hw0; omega)) ?_
  refine Ev.pos rfl ?_
  exact Ev.now _
theorem FnExactAreAscending : laws_FnExactAreAscending.Pure := by
  intro x0 h0
  exact (FnExactAreAscending_all x0 h0).rounds
end Go.Proofs.Ytljinkdlmfcikaa.Pure
