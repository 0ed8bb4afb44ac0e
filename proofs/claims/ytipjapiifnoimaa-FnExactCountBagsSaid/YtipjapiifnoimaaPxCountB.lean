/- The number of bags of a type: the program's and the reference's functions come to the same. No condition beyond the sizes named. -/
import Derived.Test.YtipjapiifnoimaaPx0
import Derived.Test.YtipjapiifnoimaaPx4
import Derived.Test.YtipjapiifnoimaaPxBit
import Derived.Test.YtipjapiifnoimaaPxFType
import Derived.Test.YtipjapiifnoimaaPl
namespace Go.Proofs.Ytipjapiifnoimaa.Px
open Go.RowKit Go.Proofs.YtipjapiifnoimaaW.PrintWords Go.Proofs.YtipjapiifnoimaaW.PrintLast Go.Proofs.Ytipjapiifnoimaa.Pl
set_option linter.unusedVariables false
set_option linter.unusedSimpArgs false
theorem CountBags_same_ : ∀ x : S30, SmType x → Same (fun k => spec_CountBags.f k x.f0 x.f1 x.f2) (fun k => impl_CountBags.f k x.f0 x.f1 x.f2) := by
  refine indTypeI fun x ih hs => ?_
  have loop : ∀ s, Same (fun k => spec_CountBags.l0 k s 0 x.f0 x.f1 x.f2) (fun k => impl_CountBags.l0 k s x.f2 (x.f2.length : Int) 0) := by
    refine Same.loop x.f2.length (fun k (s : Int) i => spec_CountBags.l0 k s (i : Int) x.f0 x.f1 x.f2) (fun k s i => impl_CountBags.l0 k s x.f2 (x.f2.length : Int) (i : Int)) (fun s => ?_) (fun i s hi ihl => ?_)
    · refine Same.up ?_
      simp only [spec_CountBags.l0, impl_CountBags.l0]
      exact Same.neg (by omega) (by omega) (Same.ret rfl)
    · refine Same.up ?_
      simp only [spec_CountBags.l0, impl_CountBags.l0, w1' hi hs.p2.1]
      refine Same.pos (by omega) (by omega) (Same.pos (by omega) (by omega) (Same.posR (by omega) ?_))
      exact Same.bind (ih (x.f2.getD i z30) (mem_getD x.f2 z30 i hi) (hs.p2.2 _ (mem_getD x.f2 z30 i hi))) (fun t _ _ => ihl _)
  refine Same.up ?_
  simp only [spec_CountBags.f, impl_CountBags.f, spec_l1Bit_eq, Option.bind_some]
  by_cases h : x.f0 = 4
  · refine Same.posR h (Same.upR ?_)
    rw [show (x.f0 == 4) = true from by simpa using h]
    exact loop 1
  · refine Same.negR h (Same.upR ?_)
    rw [show (x.f0 == 4) = false from by simpa using h]
    exact loop 0
theorem CountBags_same (x : S30) (hs : SmType x) (hn : ndType x ≤ 1048577) : Same (fun k => spec_CountBags.f k x.f0 x.f1 x.f2) (fun k => impl_CountBags.f k x.f0 x.f1 x.f2) := CountBags_same_ x hs

end Go.Proofs.Ytipjapiifnoimaa.Px
