/- The size of a term: the program's and the reference's functions come to the same. No condition beyond the sizes named. -/
import Derived.Test.YtnpjekapfolbbaaPx0
import Derived.Test.YtnpjekapfolbbaaPx2
import Derived.Test.YtnpjekapfolbbaaPx3
import Derived.Test.YtnpjekapfolbbaaPxFTerm
import Derived.Test.YtnpjekapfolbbaaPl
namespace Go.Proofs.Ytnpjekapfolbbaa.Px
open Go.RowKit Go.Proofs.YtnpjekapfolbbaaW.PrintWords Go.Proofs.YtnpjekapfolbbaaW.PrintLast Go.Proofs.Ytnpjekapfolbbaa.Pl
set_option linter.unusedVariables false
set_option linter.unusedSimpArgs false
theorem SizeOfTerm_same_ : ∀ x : S36, SmTerm x → Same (fun k => spec_SizeOfTerm.f k x.f0 x.f1 x.f2 x.f3.f0 x.f3.f1 x.f3.f2 x.f4 x.f5) (fun k => impl_sizeOf.f k x.f0 x.f1 x.f2 x.f3.f0 x.f3.f1 x.f3.f2 x.f4 x.f5) := by
  refine indTermI fun x ih hs => ?_
  refine Same.up ?_
  simp only [spec_SizeOfTerm.f, impl_sizeOf.f]
  refine Same.loop x.f5.length (fun k (s : Int) i => spec_SizeOfTerm.l0 k s (i : Int) x.f0 x.f1 x.f2 x.f3.f0 x.f3.f1 x.f3.f2 x.f4 x.f5) (fun k s i => impl_sizeOf.l0 k s (x.f5.length : Int) (i : Int) x.f5) (fun s => ?_) (fun i s hi ihl => ?_) 1
  · refine Same.up ?_
    simp only [spec_SizeOfTerm.l0, impl_sizeOf.l0]
    exact Same.neg (by omega) (by omega) (Same.ret rfl)
  · refine Same.up ?_
    simp only [spec_SizeOfTerm.l0, impl_sizeOf.l0, w1' hi hs.p5.1]
    refine Same.pos (by omega) (by omega) (Same.pos (by omega) (by omega) (Same.posR (by omega) ?_))
    exact Same.bind (ih (x.f5.getD i z36) (mem_getD x.f5 z36 i hi) (hs.p5.2 _ (mem_getD x.f5 z36 i hi))) (fun t _ _ => ihl _)
theorem SizeOfTerm_same (x : S36) (hs : SmTerm x) (hn : ndTerm x ≤ 1048577) : Same (fun k => spec_SizeOfTerm.f k x.f0 x.f1 x.f2 x.f3.f0 x.f3.f1 x.f3.f2 x.f4 x.f5) (fun k => impl_SizeOfTerm.f k x.f0 x.f1 x.f2 x.f3.f0 x.f3.f1 x.f3.f2 x.f4 x.f5) := by
  obtain ⟨r, h1, h2⟩ := SizeOfTerm_same_ x hs
  simp only [impl_SizeOfTerm.f]
  exact ⟨r, h1, Ev.bind h2 (Ev.now _)⟩

end Go.Proofs.Ytnpjekapfolbbaa.Px
