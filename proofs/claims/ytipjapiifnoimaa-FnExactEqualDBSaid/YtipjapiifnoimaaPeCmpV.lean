/- Comparison of values: the program's and the reference's functions come to the same. No condition beyond the sizes named. -/
import Derived.Test.YtipjapiifnoimaaPe0
import Derived.Test.YtipjapiifnoimaaPe1
import Derived.Test.YtipjapiifnoimaaPe2
import Derived.Test.YtipjapiifnoimaaPe4
import Derived.Test.YtipjapiifnoimaaPe5
import Derived.Test.YtipjapiifnoimaaPeBit
import Derived.Test.YtipjapiifnoimaaPeFValue
import Derived.Test.YtipjapiifnoimaaPl
namespace Go.Proofs.Ytipjapiifnoimaa.Pe
open Go.RowKit Go.Proofs.YtipjapiifnoimaaW.PrintWords Go.Proofs.YtipjapiifnoimaaW.PrintLast Go.Proofs.Ytipjapiifnoimaa.Pl
set_option linter.unusedVariables false
set_option linter.unusedSimpArgs false
def cmpI (a b : Int) : Int := if a < b then -1 else if a > b then 1 else 0
theorem cmp_Compare_int_eq (a b : Int) : cmp_Compare_int.f a b = some (cmpI a b) := by
  unfold cmp_Compare_int.f cmp_isNaN_int.f cmpI
  simp only [bne_self_eq_false, Option.bind_some, Bool.false_eq_true, if_false]
  split
  · rfl
  · split <;> rfl
theorem spec_l5Number_eq (a b : Int) : spec_l5Number.f a b = some (cmpI a b) := by
  unfold spec_l5Number.f cmpI
  simp only [spec_l1Bit_eq, Option.bind_some, decide_eq_true_eq]
  by_cases h1 : a > b <;> by_cases h2 : a < b <;> simp only [h1, h2, if_true, if_false] <;> first | omega | (simp [wrap64])
theorem cmpI_eq (a : Int) : cmpI a a = 0 := by unfold cmpI; rw [if_neg (by omega), if_neg (by omega)]
theorem cmpI_ne {a b : Int} (h : ¬ a = b) : ¬ cmpI a b = 0 := by
  unfold cmpI
  split
  · omega
  · split <;> omega
theorem bytesLess_self (a : List UInt8) : Op.bytesLess a a = false := by
  induction a with
  | nil => rfl
  | cons x a ih => simp [Op.bytesLess, ih]
/-- Two strings compared, as a number. -/
def cmpS (a b : ByteArray) : Int := if Op.bytesLess a.toList b.toList = true then -1 else if Op.bytesLess b.toList a.toList = true then 1 else 0
theorem cmp_Compare_string_eq (a b : ByteArray) : cmp_Compare_string.f a b = some (cmpS a b) := by
  unfold cmp_Compare_string.f cmp_isNaN_string.f cmpS
  simp only [bne_self_eq_false, Option.bind_some, Bool.false_eq_true, if_false]
  split
  · rfl
  · split <;> rfl
theorem cmpS_eq {a b : ByteArray} (h : a.toList = b.toList) : cmpS a b = 0 := by unfold cmpS; rw [h, bytesLess_self]; rfl
theorem cmpS_ne {a b : ByteArray} (h : ¬ a.toList = b.toList) : ¬ cmpS a b = 0 ∧ wrap64 ((if Op.bytesLess b.toList a.toList = true then 1 else 0) - (if Op.bytesLess a.toList b.toList = true then 1 else 0)) = cmpS a b := by
  have e := Go.Proofs.Ytipjapiifnoimaa.Ext.bytesLess_swap a.toList b.toList
  unfold cmpS
  rw [e, show (a.toList == b.toList) = false from by simpa using h]
  cases Op.bytesLess a.toList b.toList <;> exact ⟨by decide, by simp [wrap64]⟩
theorem Labels_same (xs ys : List ByteArray) (hx : xs.length ≤ 1048576) (hy : ys.length ≤ 1048576) : Same (fun k => spec_l5Labels.f k xs ys) (fun k => slices_Compare_string_string.f k xs ys) := by
  simp only [spec_l5Labels.f, slices_Compare_string_string.f]
  refine Same.loopI xs.length (fun i (_ : Unit) => i ≤ ys.length) (fun k _ i => spec_l5Labels.l0 k xs ys (i : Int)) (fun k _ i => slices_Compare_string_string.l0 k xs ys xs (xs.length : Int) (i : Int)) (fun _ hI => ?_) (fun i _ hi hI ih => ?_) () (by omega)
  · refine Same.up ?_
    simp only [spec_l5Labels.l0, slices_Compare_string_string.l0]
    refine Same.neg (by omega) (by omega) (Same.upL ?_)
    simp only [spec_l5Labels.j1, spec_l5Number_eq, Option.bind_some]
    refine Same.negL (by decide) ?_
    refine Same.casesR (fun h => Same.ret ?_) (fun h => Same.ret ?_)
    · unfold cmpI; rw [if_pos h]
    · unfold cmpI; rw [if_neg h, if_neg (by omega)]
  · refine Same.up ?_
    simp only [spec_l5Labels.l0, slices_Compare_string_string.l0, cmp_Compare_string_eq, Option.bind_some, w1' hi hx]
    refine Same.pos (by omega) (by omega) (Same.upL (Same.posR (by omega) (Same.posR (by omega) ?_)))
    simp only [spec_l5Labels.j1, spec_l5Number_eq, Option.bind_some, spec_l1Bit_eq]
    by_cases hj : i < ys.length
    · refine Same.posL (by simpa using hj) (Same.posL (by omega) (Same.posL (by omega) (Same.posL (by omega) (Same.negR (by omega) (Same.posR (by omega) ?_)))))
      refine Same.casesL (fun hc => Same.posR (cmpS_eq hc) ?_) (fun hc => Same.negR (cmpS_ne hc).1 (Same.ret (cmpS_ne hc).2))
      rw [w1' hi hx]
      exact ih () (by omega)
    · refine Same.negL (by simpa using hj) (Same.posR (by omega) (Same.ret ?_))
      unfold cmpI
      rw [if_neg (by omega), if_pos (by omega)]
theorem cmp_Or_int_ev (a b c d : Int) : Ev (fun k => cmp_Or_int.f k [a, b, c, d]) (if a = 0 then if b = 0 then if c = 0 then d else c else b else a) := by
  have e1 : wrap64 (0 + 1) = 1 := by simp [wrap64]
  have e2 : wrap64 (1 + 1) = 2 := by simp [wrap64]
  have e3 : wrap64 (2 + 1) = 3 := by simp [wrap64]
  have e4 : wrap64 (3 + 1) = 4 := by simp [wrap64]
  have r0 : rd [a, b, c, d] 0 = a := rfl
  have r1 : rd [a, b, c, d] 1 = b := rfl
  have r2 : rd [a, b, c, d] 2 = c := rfl
  have r3 : rd [a, b, c, d] 3 = d := rfl
  simp only [cmp_Or_int.f]
  refine Ev.up ?_
  simp only [cmp_Or_int.l0, r0, e1]
  refine Ev.pos (by simp) (Ev.pos (by decide) (Ev.pos (by simp) ?_))
  refine Ev.cases (fun h => ?_) (fun h => by rw [if_neg h]; exact Ev.now _)
  rw [if_pos h]
  refine Ev.up ?_
  simp only [cmp_Or_int.l0, r1, e2]
  refine Ev.pos (by simp) (Ev.pos (by decide) (Ev.pos (by simp) ?_))
  refine Ev.cases (fun h => ?_) (fun h => by rw [if_neg h]; exact Ev.now _)
  rw [if_pos h]
  refine Ev.up ?_
  simp only [cmp_Or_int.l0, r2, e3]
  refine Ev.pos (by simp) (Ev.pos (by decide) (Ev.pos (by simp) ?_))
  refine Ev.cases (fun h => ?_) (fun h => by rw [if_neg h]; exact Ev.now _)
  rw [if_pos h]
  refine Ev.up ?_
  simp only [cmp_Or_int.l0, r3, e4]
  refine Ev.pos (by simp) (Ev.pos (by decide) (Ev.pos (by simp) ?_))
  refine Ev.cases (fun h => ?_) (fun h => Ev.now _)
  refine Ev.up ?_
  simp only [cmp_Or_int.l0]
  exact Ev.neg (by simp) (Ev.const h.symm)
theorem CompareValues_same_ : ∀ x : S42, ∀ y : S42, SmValue x → SmValue y → Same (fun k => spec_CompareValues.f k x.f0 x.f1 x.f2 x.f3 y.f0 y.f1 y.f2 y.f3) (fun k => impl_CompareValues.f k x.f0 x.f1 x.f2 x.f3 y.f0 y.f1 y.f2 y.f3) := by
  refine indValueI fun x ih y hs ht => ?_
  have out : ∀ n : Int, ¬ n = 0 → Ev (fun k => impl_CompareValues.l0 k n 0 x.f0 x.f1 x.f2 x.f3 y.f0 y.f1 y.f2 y.f3) n := by
    intro n hn
    refine Ev.up ?_
    simp only [impl_CompareValues.l0]
    exact Ev.neg hn (Ev.now _)
  refine Same.up ?_
  simp only [spec_CompareValues.f, impl_CompareValues.f, cmp_Compare_int_eq, spec_l5Number_eq, Option.bind_some]
  obtain ⟨t, h1, h2⟩ := Labels_same x.f2 y.f2 hs.p2.1 ht.p2.1
  refine Same.bindR h2 (Same.bindR (cmp_Or_int_ev _ _ _ _) ?_)
  refine Same.casesL (fun e0 => ?_) (fun e0 => ?_)
  · rw [if_pos (by rw [e0]; exact cmpI_eq _)]
    refine Same.casesL (fun e1 => ?_) (fun e1 => ?_)
    · rw [if_pos (by rw [e1]; exact cmpI_eq _)]
      refine Same.casesL (fun e2 => ?_) (fun e2 => ?_)
      · rw [if_pos (by rw [e2]; exact cmpI_eq _)]
        refine Same.bindL h1 ?_
        refine Same.loop x.f3.length (fun k (s : Int) i => spec_CompareValues.l0 k s (i : Int) x.f0 x.f1 x.f2 x.f3 y.f0 y.f1 y.f2 y.f3) (fun k s i => impl_CompareValues.l0 k s (i : Int) x.f0 x.f1 x.f2 x.f3 y.f0 y.f1 y.f2 y.f3) (fun s => ?_) (fun i s hi ihl => ?_) t
        · refine Same.up ?_
          simp only [spec_CompareValues.l0, impl_CompareValues.l0]
          refine Same.negL (by omega) ?_
          exact Same.casesR (fun _ => Same.negR (by omega) (Same.ret rfl)) (fun _ => Same.ret rfl)
        · refine Same.up ?_
          simp only [spec_CompareValues.l0, impl_CompareValues.l0, w1' hi hs.p3.1]
          refine Same.posL (by omega) ?_
          refine Same.ite Iff.rfl (fun h0 => ?_) (fun _ => Same.ret rfl)
          refine Same.posR (by omega) (Same.pos (by omega) (by omega) (Same.pos (by omega) (by omega) ?_))
          exact Same.bind (ih (x.f3.getD i z42) (mem_getD x.f3 z42 i hi) (y.f3.getD i z42) (hs.p3.2 _ (mem_getD x.f3 z42 i hi)) (ht.p3.2 _ (mem_getD y.f3 z42 i (by omega)))) (fun t _ _ => ihl t)
      · rw [if_neg (cmpI_ne e2)]
        exact ⟨_, Ev.now _, out _ (cmpI_ne e2)⟩
    · rw [if_neg (cmpI_ne e1)]
      exact ⟨_, Ev.now _, out _ (cmpI_ne e1)⟩
  · rw [if_neg (cmpI_ne e0)]
    exact ⟨_, Ev.now _, out _ (cmpI_ne e0)⟩
theorem CompareValues_same (x : S42) (hs : SmValue x) (hn : ndValue x ≤ 1048577) (y : S42) (ht : SmValue y) (hm : ndValue y ≤ 1048577) : Same (fun k => spec_CompareValues.f k x.f0 x.f1 x.f2 x.f3 y.f0 y.f1 y.f2 y.f3) (fun k => impl_CompareValues.f k x.f0 x.f1 x.f2 x.f3 y.f0 y.f1 y.f2 y.f3) := CompareValues_same_ x y hs ht

end Go.Proofs.Ytipjapiifnoimaa.Pe
