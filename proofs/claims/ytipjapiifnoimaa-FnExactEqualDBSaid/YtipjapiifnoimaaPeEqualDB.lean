/- Equality of databases: the program's and the reference's functions come to the same. No condition beyond the sizes named. -/
import Derived.Test.YtipjapiifnoimaaPe0
import Derived.Test.YtipjapiifnoimaaPe3
import Derived.Test.YtipjapiifnoimaaPe5
import Derived.Test.YtipjapiifnoimaaPe6
import Derived.Test.YtipjapiifnoimaaPeCmpV
import Derived.Test.YtipjapiifnoimaaPeFDB
import Derived.Test.YtipjapiifnoimaaPeFValue
import Derived.Test.YtipjapiifnoimaaPl
namespace Go.Proofs.Ytipjapiifnoimaa.Pe
open Go.RowKit Go.Proofs.YtipjapiifnoimaaW.PrintWords Go.Proofs.YtipjapiifnoimaaW.PrintLast Go.Proofs.Ytipjapiifnoimaa.Pl
set_option linter.unusedVariables false
set_option linter.unusedSimpArgs false
theorem EqualDB_rows (X Y : List S101) (i : Int) (a b : ByteArray) (p q : List S42) (hp : p.length ≤ 1048576) (hp2 : ∀ y ∈ p, SmValue y) (hq2 : ∀ y ∈ q, SmValue y) (hl : p.length = q.length) :
    ∀ m j, j + m = p.length → ∃ t, Ev (fun k => impl_Value__of_equalValue.l0 k q p (p.length : Int) (j : Int)) t ∧ ∀ r, Ev (fun k => spec_EqualDB.l0 k (wrap64 (i + 1)) X Y) r → Ev (fun k => spec_EqualDB.l1 k i (j : Int) X Y a p b q) (if t = true then r else false) := by
  intro m
  induction m with
  | zero =>
    intro j hj
    refine ⟨true, Ev.up ?_, fun r hr => Ev.up ?_⟩
    · simp only [impl_Value__of_equalValue.l0]; exact Ev.neg (by omega) (Ev.now _)
    · simp only [spec_EqualDB.l1]; exact Ev.neg (by omega) hr
  | succ m ih =>
    intro j hj
    obtain ⟨t, h1, h2⟩ := CompareValues_same_ (p.getD j z42) (q.getD j z42) (hp2 _ (mem_getD p z42 j (by omega))) (hq2 _ (mem_getD q z42 j (by omega)))
    by_cases h0 : t = 0
    · obtain ⟨u, g1, g2⟩ := ih (j + 1) (by omega)
      refine ⟨u, Ev.up ?_, fun r hr => Ev.up ?_⟩
      · simp only [impl_Value__of_equalValue.l0, w1' (n := p.length) (i := j) (by omega) hp]
        refine Ev.pos (by omega) (Ev.pos (by omega) (Ev.pos (by omega) (Ev.pos (by omega) ?_)))
        refine Ev.bind (a := true) ?_ (Ev.pos rfl g1)
        simp only [impl_equalValue.f]
        exact Ev.bind h2 (Ev.const (by simp [h0]))
      · simp only [spec_EqualDB.l1, w1' (n := p.length) (i := j) (by omega) hp]
        refine Ev.pos (by omega) (Ev.pos (by omega) (Ev.pos (by omega) ?_))
        exact Ev.bind h1 (Ev.pos h0 (g2 r hr))
    · refine ⟨false, Ev.up ?_, fun r hr => Ev.up ?_⟩
      · simp only [impl_Value__of_equalValue.l0]
        refine Ev.pos (by omega) (Ev.pos (by omega) (Ev.pos (by omega) (Ev.pos (by omega) ?_)))
        refine Ev.bind (a := false) ?_ (Ev.neg (by decide) (Ev.now _))
        simp only [impl_equalValue.f]
        exact Ev.bind h2 (Ev.const (by simp [h0]))
      · simp only [spec_EqualDB.l1]
        refine Ev.pos (by omega) (Ev.pos (by omega) (Ev.pos (by omega) ?_))
        exact Ev.bind h1 (Ev.neg h0 (Ev.now _))
theorem EqualDB_same (x : S66) (hs : SmDB x) (y : S66) (ht : SmDB y) : Same (fun k => spec_EqualDB.f k x.f0 y.f0) (fun k => impl_EqualDB.f k x.f0 y.f0) := by
  simp only [spec_EqualDB.f, impl_EqualDB.f, impl_TableData__of_EqualDB_1.f]
  suffices h : Same (fun k => if (x.f0.length : Int) = (y.f0.length : Int) then spec_EqualDB.l0 k 0 x.f0 y.f0 else some false) (fun k => if (x.f0.length : Int) = (y.f0.length : Int) then impl_TableData__of_EqualDB_1.l0 k y.f0 x.f0 (x.f0.length : Int) 0 else some false) by
    obtain ⟨r, h1, h2⟩ := h
    exact ⟨r, h1, Ev.bind h2 (Ev.now _)⟩
  refine Same.ite Iff.rfl (fun hl => ?_) (fun _ => Same.ret rfl)
  refine Same.loop0 x.f0.length (fun k i => spec_EqualDB.l0 k (i : Int) x.f0 y.f0) (fun k i => impl_TableData__of_EqualDB_1.l0 k y.f0 x.f0 (x.f0.length : Int) (i : Int)) ?_ (fun i hi ihl => ?_)
  · refine Same.up ?_
    simp only [spec_EqualDB.l0, impl_TableData__of_EqualDB_1.l0]
    exact Same.neg (by omega) (by omega) (Same.ret rfl)
  · refine Same.up ?_
    simp only [spec_EqualDB.l0, impl_TableData__of_EqualDB_1.l0, impl_EqualDB_1.f, impl_Value__of_equalValue.f]
    refine Same.pos (by omega) (by omega) (Same.pos (by omega) (by omega) (Same.posR (by omega) (Same.pos (by omega) (by omega) ?_)))
    have hp := hs.2 _ (mem_getD x.f0 z101 i hi)
    have hq := ht.2 _ (mem_getD y.f0 z101 i (by omega))
    have no : Ev (fun k => spec_EqualDB.j1 k (i : Int) true x.f0 y.f0 ((rd_T101 x.f0 (i : Int)).f0) ((rd_T101 x.f0 (i : Int)).f1) ((rd_T101 y.f0 (i : Int)).f0) ((rd_T101 y.f0 (i : Int)).f1)) false := by
      refine Ev.up ?_
      simp only [spec_EqualDB.j1]
      exact Ev.pos (by simp) (Ev.now _)
    by_cases hc : ((rd_T101 x.f0 (i : Int)).f0).toList = ((rd_T101 y.f0 (i : Int)).f0).toList
    · refine Same.posL hc ?_
      simp only [hc, if_true]
      by_cases hn : ((rd_T101 x.f0 (i : Int)).f1).length = ((rd_T101 y.f0 (i : Int)).f1).length
      · obtain ⟨t, g1, g2⟩ := EqualDB_rows x.f0 y.f0 (i : Int) ((rd_T101 x.f0 (i : Int)).f0) ((rd_T101 y.f0 (i : Int)).f0) _ _ hp.2.1 hp.2.2 hq.2.2 hn _ 0 (Nat.zero_add _)
        rw [show ((((rd_T101 x.f0 (i : Int)).f1).length : Int) != (((rd_T101 y.f0 (i : Int)).f1).length : Int)) = false from by simp [hn]]
        obtain ⟨r, e1, e2⟩ := ihl
        rw [← w1' hi hs.1] at e1 e2
        refine ⟨if t = true then r else false, Ev.up ?_, ?_⟩
        · simp only [spec_EqualDB.j1]
          exact Ev.neg (by simp) (g2 r e1)
        · refine Ev.bind (a := t) (Ev.bind (Ev.pos (by omega) g1) (Ev.now _)) ?_
          refine Ev.cases (fun h => ?_) (fun h => ?_)
          · rw [if_pos h]; exact e2
          · rw [if_neg h]; exact Ev.now _
      · rw [show ((((rd_T101 x.f0 (i : Int)).f1).length : Int) != (((rd_T101 y.f0 (i : Int)).f1).length : Int)) = true from by simpa using (by omega : ¬ (((rd_T101 x.f0 (i : Int)).f1).length : Int) = (((rd_T101 y.f0 (i : Int)).f1).length : Int))]
        exact ⟨false, no, Ev.bind (a := false) (Ev.bind (Ev.neg (by omega) (Ev.now _)) (Ev.now _)) (Ev.neg (by decide) (Ev.now _))⟩
    · refine Same.negL hc ?_
      simp only [hc, if_false, Option.bind_some]
      exact ⟨false, no, Ev.neg (by decide) (Ev.now _)⟩

end Go.Proofs.Ytipjapiifnoimaa.Pe
