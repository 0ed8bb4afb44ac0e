/- OpArity of the program and of the reference come to the same. No condition. -/
import Derived.Test.YtljinkdlmfcikaaPx1
import Derived.Test.YtljinkdlmfcikaaPl
namespace Go.Proofs.Ytljinkdlmfcikaa.Px
open Go.RowKit Go.Proofs.YtljinkdlmfcikaaW.PrintWords Go.Proofs.YtljinkdlmfcikaaW.PrintLast Go.Proofs.Ytljinkdlmfcikaa.Pl
set_option linter.unusedVariables false
set_option linter.unusedSimpArgs false
theorem OpArity_same (s : ByteArray) (hs : s.size ≤ 1048576) : ∃ r, Ev (fun k => spec_OpArity.f k s) r ∧ Ev (fun k => impl_OpArity.f k s) r := by
  have h1 : ∀ b, Ev (fun k => spec_OpArity.j0 k s b) (if b = true then 2 else if s.toList = ([33] : List UInt8) then 1 else 0) := by
    intro b
    refine Ev.up ?_
    simp only [spec_OpArity.j0]
    refine Ev.cases (fun h => ?_) (fun h => Ev.cases (fun h2 => ?_) (fun h2 => ?_))
    · rw [if_pos h]; exact Ev.now _
    · rw [if_neg h, if_pos h2]; exact Ev.now _
    · rw [if_neg h, if_neg h2]; exact Ev.now _
  have h2 : ∀ b, Ev (fun k => impl_OpArity.j0 k s b) (if b = true then 2 else if s.toList = ([33] : List UInt8) then 1 else 0) := by
    intro b
    refine Ev.up ?_
    simp only [impl_OpArity.j0]
    refine Ev.cases (fun h => ?_) (fun h => Ev.cases (fun h2 => ?_) (fun h2 => ?_))
    · rw [if_pos h]; exact Ev.now _
    · rw [if_neg h, if_pos h2]; exact Ev.now _
    · rw [if_neg h, if_neg h2]; exact Ev.now _
  simp only [spec_OpArity.f, impl_OpArity.f]
  split
  · exact ⟨_, h1 _, h2 _⟩
  · split
    · exact ⟨_, h1 _, h2 _⟩
    · split
      · exact ⟨_, h1 _, h2 _⟩
      · split
        · exact ⟨_, h1 _, h2 _⟩
        · split
          · exact ⟨_, h1 _, h2 _⟩
          · exact ⟨_, h1 _, h2 _⟩

end Go.Proofs.Ytljinkdlmfcikaa.Px
