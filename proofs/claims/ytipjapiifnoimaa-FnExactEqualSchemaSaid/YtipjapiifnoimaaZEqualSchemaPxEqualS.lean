/- Equality of schemas: the program's and the reference's functions come to the same. No condition beyond the sizes named. -/
import Derived.Test.YtipjapiifnoimaaZEqualSchemaPx0
import Derived.Test.YtipjapiifnoimaaZEqualSchemaPx17
import Derived.Test.YtipjapiifnoimaaZEqualSchemaPx18
import Derived.Test.YtipjapiifnoimaaZEqualSchemaPxEqualT
import Derived.Test.YtipjapiifnoimaaZEqualSchemaPxFSchema
import Derived.Test.YtipjapiifnoimaaZEqualSchemaPl
namespace Go.Proofs.Ytipjapiifnoimaa.Px
open Go.RowKit Go.Proofs.YtipjapiifnoimaaW.PrintWords Go.Proofs.YtipjapiifnoimaaW.PrintLast Go.Proofs.Ytipjapiifnoimaa.Pl
set_option linter.unusedVariables false
set_option linter.unusedSimpArgs false
theorem EqualSchema_same (x : S55) (hs : SmSchema x) (y : S55) (ht : SmSchema y) : Same (fun k => spec_EqualSchema.f k x.f0 y.f0) (fun k => impl_EqualSchema.f k x.f0 y.f0) := by
  simp only [spec_EqualSchema.f, impl_EqualSchema.f, impl_TableDecl__of_EqualSchema_1.f]
  suffices h : Same (fun k => if (x.f0.length : Int) = (y.f0.length : Int) then spec_EqualSchema.l0 k 0 x.f0 y.f0 else some false) (fun k => if (x.f0.length : Int) = (y.f0.length : Int) then impl_TableDecl__of_EqualSchema_1.l0 k y.f0 x.f0 (x.f0.length : Int) 0 else some false) by
    obtain ⟨r, h1, h2⟩ := h
    exact ⟨r, h1, Ev.bind h2 (Ev.now _)⟩
  refine Same.ite Iff.rfl (fun hl => ?_) (fun _ => Same.ret rfl)
  refine Same.loop0 x.f0.length (fun k i => spec_EqualSchema.l0 k (i : Int) x.f0 y.f0) (fun k i => impl_TableDecl__of_EqualSchema_1.l0 k y.f0 x.f0 (x.f0.length : Int) (i : Int)) ?_ (fun i hi ihl => ?_)
  · refine Same.up ?_
    simp only [spec_EqualSchema.l0, impl_TableDecl__of_EqualSchema_1.l0]
    exact Same.neg (by omega) (by omega) (Same.ret rfl)
  · refine Same.up ?_
    simp only [spec_EqualSchema.l0, impl_TableDecl__of_EqualSchema_1.l0, impl_EqualSchema_1_of.f, w1' hi hs.1]
    refine Same.pos (by omega) (by omega) (Same.pos (by omega) (by omega) (Same.posR (by omega) (Same.pos (by omega) (by omega) ?_)))
    by_cases hc : ((rd_T89 x.f0 (i : Int)).f0).toList = ((rd_T89 y.f0 (i : Int)).f0).toList
    · refine Same.posL hc ?_
      simp only [hc, if_true]
      have h := EqualType_same_ (x.f0.getD i z89).f1 (y.f0.getD i z89).f1 (hs.2 _ (mem_getD x.f0 z89 i hi)).2 (ht.2 _ (mem_getD y.f0 z89 i (by omega))).2
      obtain ⟨r, h1, h2⟩ := h
      refine Same.bindL h1 ?_
      refine Same.bindR (Ev.bind h2 (Ev.now _)) ?_
      exact Same.ite Iff.rfl (fun _ => ihl) (fun _ => Same.ret rfl)
    · refine Same.negL hc ?_
      simp only [hc, if_false, Option.bind_some]
      exact Same.negR (by decide) (Same.ret rfl)

end Go.Proofs.Ytipjapiifnoimaa.Px
