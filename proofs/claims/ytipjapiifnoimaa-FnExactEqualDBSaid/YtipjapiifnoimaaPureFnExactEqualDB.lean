/- The law FnExactEqualDB answers true at every input: its pure statement. No condition. -/
import Derived.Test.YtipjapiifnoimaaPe0
import Derived.Test.YtipjapiifnoimaaPe8
import Derived.Test.YtipjapiifnoimaaPeEqualDB
import Derived.Test.YtipjapiifnoimaaPeFDB
import Derived.Test.YtipjapiifnoimaaPl
namespace Go.Proofs.Ytipjapiifnoimaa.Pure
open Go.RowKit Go.Proofs.Ytipjapiifnoimaa.Pe Go.Proofs.YtipjapiifnoimaaW.PrintWords Go.Proofs.YtipjapiifnoimaaW.PrintLast Go.Proofs.Ytipjapiifnoimaa.Pl
set_option linter.unusedVariables false
set_option linter.unusedSimpArgs false
theorem FnExactEqualDB_all (x0 : S61) (hW0 : W61 x0) (x1 : S61) (hW1 : W61 x1) : Ev (fun k => laws_FnExactEqualDB.f k x0.f0 x1.f0) true := by
  simp only [laws_FnExactEqualDB.f]
  have hb0 : (0 : Int) ≤ (1048576 : Int) ∧ (1048576 : Int) ≤ 1048576 := ⟨by omega, by omega⟩
  refine Ev.bind (szDB_ev x0 hW0 _ hb0.1 hb0.2) ?_
  by_cases hc0 : cut (wtDB x0) (1048576 : Int) < 0
  · exact Ev.pos hc0 (Ev.now _)
  refine Ev.neg hc0 ?_
  have hw0 : (wtDB x0 : Nat) ≤ 1048576 := by
    have := (not_congr (cut_neg (n := wtDB x0))).1 hc0
    have h2 := hb0
    omega
  have hb1 : (0 : Int) ≤ (cut (wtDB x0) (1048576 : Int)) ∧ (cut (wtDB x0) (1048576 : Int)) ≤ 1048576 := ⟨by omega, by have := cut_le (n := wtDB x0) hb0.1; omega⟩
  refine Ev.bind (szDB_ev x1 hW1 _ hb1.1 hb1.2) ?_
  by_cases hc1 : cut (wtDB x1) (cut (wtDB x0) (1048576 : Int)) < 0
  · exact Ev.pos hc1 (Ev.now _)
  refine Ev.neg hc1 ?_
  have hw1 : (wtDB x1 : Nat) ≤ 1048576 := by
    have := (not_congr (cut_neg (n := wtDB x1))).1 hc1
    have h2 := hb1
    omega
  obtain ⟨r, h1, h2⟩ := EqualDB_same (cvDB x0) (smDB_of x0 hW0 hw0) (cvDB x1) (smDB_of x1 hW1 hw1)
  refine Ev.bind (toDB_ev x0 hw0) ?_
  refine Ev.bind (toDB_ev x1 hw1) ?_
  first | refine Ev.bind h1 ?_ | (obtain ⟨k1_, h1_⟩ := h1.rounds; refine Ev.fix h1_ ?_)
  refine Ev.bind (toDB_ev x0 hw0) ?_
  refine Ev.bind (toDB_ev x1 hw1) ?_
  first | refine Ev.bind h2 ?_ | (obtain ⟨k2_, h2_⟩ := h2.rounds; refine Ev.fix h2_ ?_)
  first | refine Ev.pos rfl ?_ | refine Ev.neg (by simp) ?_ | refine Ev.pos (by simp) ?_
  refine Ev.bind (toDB_ev x0 hw0) ?_
  refine Ev.bind (eqDB_ev _ (smDB_of x0 hW0 hw0)) ?_
  refine Ev.pos rfl ?_
  refine Ev.bind (toDB_ev x1 hw1) ?_
  refine Ev.bind (eqDB_ev _ (smDB_of x1 hW1 hw1)) ?_
  refine Ev.pos rfl ?_
  exact Ev.now _
theorem FnExactEqualDB : laws_FnExactEqualDB.Pure := by
  intro v0_0 v1_0 h0 h1
  exact (FnExactEqualDB_all ⟨v0_0⟩ h0 ⟨v1_0⟩ h1).rounds
end Go.Proofs.Ytipjapiifnoimaa.Pure
