/- The law FnExactIsName answers true at every input: its pure statement. No condition. -/
import Derived.Test.YtljinkdlmfcikaaPx2
import Derived.Test.YtljinkdlmfcikaaPxIsName
import Derived.Test.YtljinkdlmfcikaaPl
namespace Go.Proofs.Ytljinkdlmfcikaa.Pure
open Go.RowKit Go.Proofs.Ytljinkdlmfcikaa.Px Go.Proofs.YtljinkdlmfcikaaW.PrintWords Go.Proofs.YtljinkdlmfcikaaW.PrintLast Go.Proofs.Ytljinkdlmfcikaa.Pl
set_option linter.unusedVariables false
set_option linter.unusedSimpArgs false
theorem FnExactIsName_all (x0 : ByteArray) (hW0 : x0.size ≤ maxLen) : Ev (fun k => laws_FnExactIsName.f k x0) true := by
  simp only [laws_FnExactIsName.f]
  refine Ev.cases (fun _ => Ev.now _) (fun hl0 => ?_)
  obtain ⟨r, h1, h2⟩ := IsName_same x0 (by omega)
  first | refine Ev.bind h1 ?_ | (obtain ⟨k1_, h1_⟩ := h1.rounds; refine Ev.fix h1_ ?_)
  first | refine Ev.bind h2 ?_ | (obtain ⟨k2_, h2_⟩ := h2.rounds; refine Ev.fix h2_ ?_)
  first | refine Ev.pos rfl ?_ | refine Ev.neg (by simp) ?_ | refine Ev.pos (by simp) ?_
  exact Ev.now _
theorem FnExactIsName : laws_FnExactIsName.Pure := by
  intro x0 h0
  exact (FnExactIsName_all x0 (by first | exact h0 | exact Nat.le_trans h0 (by decide))).rounds
end Go.Proofs.Ytljinkdlmfcikaa.Pure
