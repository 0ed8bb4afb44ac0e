/- The depth of a term: the program's and the reference's functions come to the same. No condition beyond the sizes named. -/
import Derived.Test.YtnpjekapfolbbaaPx0
import Derived.Test.YtnpjekapfolbbaaPx5
import Derived.Test.YtnpjekapfolbbaaPxFTerm
import Derived.Test.YtnpjekapfolbbaaPl
namespace Go.Proofs.Ytnpjekapfolbbaa.Px
open Go.RowKit Go.Proofs.YtnpjekapfolbbaaW.PrintWords Go.Proofs.YtnpjekapfolbbaaW.PrintLast Go.Proofs.Ytnpjekapfolbbaa.Pl
set_option linter.unusedVariables false
set_option linter.unusedSimpArgs false
theorem spec_l1Max_eq (a b : Int) : spec_l1Max.f a b = some (mx a b) := by
  rw [mx_eq]; unfold spec_l1Max.f; split <;> rfl
theorem DepthOfTerm_same_ : ∀ x : S36, SmTerm x → Same (fun k => spec_DepthOfTerm.f k x.f0 x.f1 x.f2 x.f3.f0 x.f3.f1 x.f3.f2 x.f4 x.f5) (fun k => impl_DepthOfTerm.f k x.f0 x.f1 x.f2 x.f3.f0 x.f3.f1 x.f3.f2 x.f4 x.f5) := by
  refine indTermI fun x ih hs => ?_
  refine Same.up ?_
  simp only [spec_DepthOfTerm.f, impl_DepthOfTerm.f]
  refine Same.loop x.f5.length (fun k (s : Int) i => spec_DepthOfTerm.l0 k s (i : Int) x.f0 x.f1 x.f2 x.f3.f0 x.f3.f1 x.f3.f2 x.f4 x.f5) (fun k s i => impl_DepthOfTerm.l0 k s (x.f5.length : Int) (i : Int) x.f0 x.f1 x.f2 x.f3.f0 x.f3.f1 x.f3.f2 x.f4 x.f5) (fun s => ?_) (fun i s hi ihl => ?_) 0
  · refine Same.up ?_
    simp only [spec_DepthOfTerm.l0, impl_DepthOfTerm.l0]
    exact Same.neg (by omega) (by omega) (Same.ret rfl)
  · refine Same.up ?_
    simp only [spec_DepthOfTerm.l0, impl_DepthOfTerm.l0, w1' hi hs.p5.1, spec_l1Max_eq, Option.bind_some]
    refine Same.pos (by omega) (by omega) (Same.pos (by omega) (by omega) (Same.posR (by omega) ?_))
    exact Same.bind (ih (x.f5.getD i z36) (mem_getD x.f5 z36 i hi) (hs.p5.2 _ (mem_getD x.f5 z36 i hi))) (fun t _ _ => ihl _)
theorem DepthOfTerm_same (x : S36) (hs : SmTerm x) (hn : ndTerm x ≤ 1048577) : Same (fun k => spec_DepthOfTerm.f k x.f0 x.f1 x.f2 x.f3.f0 x.f3.f1 x.f3.f2 x.f4 x.f5) (fun k => impl_DepthOfTerm.f k x.f0 x.f1 x.f2 x.f3.f0 x.f3.f1 x.f3.f2 x.f4 x.f5) := DepthOfTerm_same_ x hs

end Go.Proofs.Ytnpjekapfolbbaa.Px
