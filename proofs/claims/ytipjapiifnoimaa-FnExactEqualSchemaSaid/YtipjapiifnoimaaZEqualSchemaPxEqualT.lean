/- Equality of types: the program's and the reference's functions come to the same. No condition beyond the sizes named. -/
import Derived.Test.YtipjapiifnoimaaZEqualSchemaPx0
import Derived.Test.YtipjapiifnoimaaZEqualSchemaPx4
import Derived.Test.YtipjapiifnoimaaZEqualSchemaPx5
import Derived.Test.YtipjapiifnoimaaZEqualSchemaPx6
import Derived.Test.YtipjapiifnoimaaZEqualSchemaPxFType
import Derived.Test.YtipjapiifnoimaaZEqualSchemaPl
namespace Go.Proofs.Ytipjapiifnoimaa.Px
open Go.RowKit Go.Proofs.YtipjapiifnoimaaW.PrintWords Go.Proofs.YtipjapiifnoimaaW.PrintLast Go.Proofs.Ytipjapiifnoimaa.Pl
set_option linter.unusedVariables false
set_option linter.unusedSimpArgs false
theorem Texts_same (xs ys : List ByteArray) (hx : xs.length ≤ 1048576) : Same (fun k => spec_l3Texts.f k xs ys) (fun k => slices_Equal_string_string.f k xs ys) := by
  simp only [spec_l3Texts.f, slices_Equal_string_string.f]
  refine Same.ite Iff.rfl (fun h => ?_) (fun _ => Same.ret rfl)
  refine Same.loop0 xs.length (fun k i => spec_l3Texts.l0 k xs ys (i : Int)) (fun k i => slices_Equal_string_string.l0 k xs ys (xs.length : Int) (i : Int)) ?_ (fun i hi ih => ?_)
  · refine Same.up ?_
    simp only [spec_l3Texts.l0, slices_Equal_string_string.l0]
    exact Same.neg (by omega) (by omega) (Same.ret rfl)
  · refine Same.up ?_
    simp only [spec_l3Texts.l0, slices_Equal_string_string.l0, w1' hi hx]
    exact Same.pos (by omega) (by omega) (Same.pos (by omega) (by omega) (Same.posR (by omega) (Same.pos (by omega) (by omega) (Same.ite Iff.rfl (fun _ => ih) (fun _ => Same.ret rfl)))))
theorem EqualType_same_ : ∀ x : S30, ∀ y : S30, SmType x → SmType y → Same (fun k => spec_EqualType.f k x.f0 x.f1 x.f2 y.f0 y.f1 y.f2) (fun k => impl_EqualType.f k x.f0 x.f1 x.f2 y.f0 y.f1 y.f2) := by
  refine indTypeI fun x ih y hs ht => ?_
  have no : Ev (fun k => spec_EqualType.j0 k true x.f0 x.f1 x.f2 y.f0 y.f1 y.f2) false := by
    refine Ev.up ?_
    simp only [spec_EqualType.j0]
    exact Ev.pos (by simp) (Ev.now _)
  refine Same.up ?_
  simp only [spec_EqualType.f, impl_EqualType.f]
  refine Same.ite Iff.rfl (fun _ => ?_) (fun _ => ⟨false, no, Ev.now _⟩)
  refine Same.bind (Texts_same x.f1 y.f1 hs.p1.1) (fun t _ _ => ?_)
  refine Same.ite Iff.rfl (fun _ => ?_) (fun _ => ⟨false, no, Ev.now _⟩)
  by_cases hl : x.f2.length = y.f2.length
  · have loop : Same (fun k => spec_EqualType.l0 k 0 x.f0 x.f1 x.f2 y.f0 y.f1 y.f2) (fun k => impl_Type__of_EqualType.l0 k y.f2 x.f2 (x.f2.length : Int) 0) := by
      refine Same.loop0 x.f2.length (fun k i => spec_EqualType.l0 k (i : Int) x.f0 x.f1 x.f2 y.f0 y.f1 y.f2) (fun k i => impl_Type__of_EqualType.l0 k y.f2 x.f2 (x.f2.length : Int) (i : Int)) ?_ (fun i hi ihl => ?_)
      · refine Same.up ?_
        simp only [spec_EqualType.l0, impl_Type__of_EqualType.l0]
        exact Same.neg (by omega) (by omega) (Same.ret rfl)
      · refine Same.up ?_
        simp only [spec_EqualType.l0, impl_Type__of_EqualType.l0, w1' hi hs.p2.1]
        refine Same.pos (by omega) (by omega) (Same.pos (by omega) (by omega) (Same.posR (by omega) (Same.pos (by omega) (by omega) ?_)))
        refine Same.bind (ih (x.f2.getD i z30) (mem_getD x.f2 z30 i hi) (y.f2.getD i z30) (hs.p2.2 _ (mem_getD x.f2 z30 i hi)) (ht.p2.2 _ (mem_getD y.f2 z30 i (by omega)))) (fun t _ _ => ?_)
        exact Same.ite Iff.rfl (fun _ => ihl) (fun _ => Same.ret rfl)
    rw [show ((x.f2.length : Int) != (y.f2.length : Int)) = false from by simp [hl]]
    refine Same.upL ?_
    simp only [spec_EqualType.j0]
    refine Same.negL (by decide) ?_
    obtain ⟨r, h1, h2⟩ := loop
    refine ⟨r, h1, Ev.bind (a := r) ?_ (Ev.now _)⟩
    refine Ev.up ?_
    simp only [impl_Type__of_EqualType.f]
    exact Ev.pos (by omega) h2
  · rw [show ((x.f2.length : Int) != (y.f2.length : Int)) = true from by simpa using (by omega : ¬ (x.f2.length : Int) = y.f2.length)]
    refine ⟨false, no, Ev.bind (a := false) ?_ (Ev.now _)⟩
    refine Ev.up ?_
    simp only [impl_Type__of_EqualType.f]
    exact Ev.neg (by omega) (Ev.now _)
end Go.Proofs.Ytipjapiifnoimaa.Px
