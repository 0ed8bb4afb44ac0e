/- The depth of a type: the program's and the reference's functions come to the same. No condition beyond the sizes named. -/
import Derived.Test.YtipjapiifnoimaaPx0
import Derived.Test.YtipjapiifnoimaaPx1
import Derived.Test.YtipjapiifnoimaaPx2
import Derived.Test.YtipjapiifnoimaaPxFType
import Derived.Test.YtipjapiifnoimaaPl
namespace Go.Proofs.Ytipjapiifnoimaa.Px
open Go.RowKit Go.Proofs.YtipjapiifnoimaaW.PrintWords Go.Proofs.YtipjapiifnoimaaW.PrintLast Go.Proofs.Ytipjapiifnoimaa.Pl
set_option linter.unusedVariables false
set_option linter.unusedSimpArgs false
theorem spec_l1Max_eq (a b : Int) : spec_l1Max.f a b = some (mx a b) := by
  rw [mx_eq]; unfold spec_l1Max.f; split <;> rfl
theorem DepthOfType_same_ : ∀ x : S30, SmType x → Same (fun k => spec_DepthOfType.f k x.f0 x.f1 x.f2) (fun k => impl_DepthOfType.f k x.f0 x.f1 x.f2) := by
  refine indTypeI fun x ih hs => ?_
  refine Same.up ?_
  simp only [spec_DepthOfType.f, impl_DepthOfType.f]
  refine Same.loop x.f2.length (fun k (s : Int) i => spec_DepthOfType.l0 k s (i : Int) x.f0 x.f1 x.f2) (fun k s i => impl_DepthOfType.l0 k s x.f2 (x.f2.length : Int) (i : Int)) (fun s => ?_) (fun i s hi ihl => ?_) 0
  · refine Same.up ?_
    simp only [spec_DepthOfType.l0, impl_DepthOfType.l0]
    exact Same.neg (by omega) (by omega) (Same.ret rfl)
  · refine Same.up ?_
    simp only [spec_DepthOfType.l0, impl_DepthOfType.l0, w1' hi hs.p2.1, spec_l1Max_eq, Option.bind_some]
    refine Same.pos (by omega) (by omega) (Same.pos (by omega) (by omega) (Same.posR (by omega) ?_))
    exact Same.bind (ih (x.f2.getD i z30) (mem_getD x.f2 z30 i hi) (hs.p2.2 _ (mem_getD x.f2 z30 i hi))) (fun t _ _ => ihl _)
theorem DepthOfType_same (x : S30) (hs : SmType x) (hn : ndType x ≤ 1048577) : Same (fun k => spec_DepthOfType.f k x.f0 x.f1 x.f2) (fun k => impl_DepthOfType.f k x.f0 x.f1 x.f2) := DepthOfType_same_ x hs

end Go.Proofs.Ytipjapiifnoimaa.Px
