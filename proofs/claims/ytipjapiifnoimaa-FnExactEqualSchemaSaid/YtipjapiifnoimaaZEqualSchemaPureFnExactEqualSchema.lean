/- The law FnExactEqualSchema answers true at every input: its pure statement. No condition. -/
import Derived.Test.YtipjapiifnoimaaZEqualSchemaPx0
import Derived.Test.YtipjapiifnoimaaZEqualSchemaPx19
import Derived.Test.YtipjapiifnoimaaZEqualSchemaPxEqualS
import Derived.Test.YtipjapiifnoimaaZEqualSchemaPxFSchema
import Derived.Test.YtipjapiifnoimaaZEqualSchemaPl
namespace Go.Proofs.Ytipjapiifnoimaa.Pure
open Go.RowKit Go.Proofs.Ytipjapiifnoimaa.Px Go.Proofs.YtipjapiifnoimaaW.PrintWords Go.Proofs.YtipjapiifnoimaaW.PrintLast Go.Proofs.Ytipjapiifnoimaa.Pl
set_option linter.unusedVariables false
set_option linter.unusedSimpArgs false
theorem FnExactEqualSchema_all (x0 : S50) (hW0 : W50 x0) (x1 : S50) (hW1 : W50 x1) : Ev (fun k => laws_FnExactEqualSchema.f k x0.f0 x1.f0) true := by
  simp only [laws_FnExactEqualSchema.f]
  have hb0 : (0 : Int) ≤ (1048576 : Int) ∧ (1048576 : Int) ≤ 1048576 := ⟨by omega, by omega⟩
  refine Ev.bind (szSchema_ev x0 hW0 _ hb0.1 hb0.2) ?_
  by_cases hc0 : cut (wtSchema x0) (1048576 : Int) < 0
  · exact Ev.pos hc0 (Ev.now _)
  refine Ev.neg hc0 ?_
  have hw0 : (wtSchema x0 : Nat) ≤ 1048576 := by
    have := (not_congr (cut_neg (n := wtSchema x0))).1 hc0
    have h2 := hb0
    omega
  have hb1 : (0 : Int) ≤ (cut (wtSchema x0) (1048576 : Int)) ∧ (cut (wtSchema x0) (1048576 : Int)) ≤ 1048576 := ⟨by omega, by have := cut_le (n := wtSchema x0) hb0.1; omega⟩
  refine Ev.bind (szSchema_ev x1 hW1 _ hb1.1 hb1.2) ?_
  by_cases hc1 : cut (wtSchema x1) (cut (wtSchema x0) (1048576 : Int)) < 0
  · exact Ev.pos hc1 (Ev.now _)
  refine Ev.neg hc1 ?_
  have hw1 : (wtSchema x1 : Nat) ≤ 1048576 := by
    have := (not_congr (cut_neg (n := wtSchema x1))).1 hc1
    have h2 := hb1
    omega
  obtain ⟨r, h1, h2⟩ := EqualSchema_same (cvSchema x0) (smSchema_of x0 hW0 hw0) (cvSchema x1) (smSchema_of x1 hW1 hw1)
  refine Ev.bind (toSchema_ev x0 hw0) ?_
  refine Ev.bind (toSchema_ev x1 hw1) ?_
  first | refine Ev.bind h1 ?_ | (obtain ⟨k1_, h1_⟩ := h1.rounds; refine Ev.fix h1_ ?_)
  refine Ev.bind (toSchema_ev x0 hw0) ?_
  refine Ev.bind (toSchema_ev x1 hw1) ?_
  first | refine Ev.bind h2 ?_ | (obtain ⟨k2_, h2_⟩ := h2.rounds; refine Ev.fix h2_ ?_)
  first | refine Ev.pos rfl ?_ | refine Ev.neg (by simp) ?_ | refine Ev.pos (by simp) ?_
  refine Ev.bind (toSchema_ev x0 hw0) ?_
  refine Ev.bind (eqSchema_ev _ (smSchema_of x0 hW0 hw0)) ?_
  refine Ev.pos rfl ?_
  refine Ev.bind (toSchema_ev x1 hw1) ?_
  refine Ev.bind (eqSchema_ev _ (smSchema_of x1 hW1 hw1)) ?_
  refine Ev.pos rfl ?_
  exact Ev.now _
theorem FnExactEqualSchema : laws_FnExactEqualSchema.Pure := by
  intro v0_0 v1_0 h0 h1
  exact (FnExactEqualSchema_all ⟨v0_0⟩ h0 ⟨v1_0⟩ h1).rounds
end Go.Proofs.Ytipjapiifnoimaa.Pure
