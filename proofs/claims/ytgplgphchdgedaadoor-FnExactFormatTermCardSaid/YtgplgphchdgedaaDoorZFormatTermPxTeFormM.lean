/- Is a term right: the program's and the reference's tests of one node and of a whole term come to the same. No condition beyond the sizes named. -/
import Derived.Test.YtgplgphchdgedaaDoorZFormatTermPx0M
import Derived.Test.YtgplgphchdgedaaDoorZFormatTermPx10M
import Derived.Test.YtgplgphchdgedaaDoorZFormatTermPx15M
import Derived.Test.YtgplgphchdgedaaDoorZFormatTermPx8M
import Derived.Test.YtgplgphchdgedaaDoorZFormatTermPxTermPM
import Derived.Test.YtgplgphchdgedaaDoorZFormatTermPx26M
import Derived.Test.YtgplgphchdgedaaDoorZFormatTermPxTermXM
import Derived.Test.YtgplgphchdgedaaDoorZFormatTermPx24M
import Derived.Test.YtgplgphchdgedaaDoorZFormatTermWLastM
import Derived.Lib.Strings
import Derived.Test.YtgplgphchdgedaaDoorZFormatTermPx17M
import Derived.Test.YtgplgphchdgedaaDoorZFormatTermPx19M
import Derived.Test.YtgplgphchdgedaaDoorZFormatTermPx21M
import Derived.Test.YtgplgphchdgedaaDoorZFormatTermPx12
import Derived.Test.YtgplgphchdgedaaDoorZFormatTermPx13
import Derived.Test.YtgplgphchdgedaaDoorZFormatTermPx14
import Derived.Test.YtgplgphchdgedaaDoorZFormatTermWWords
import Derived.Deep.Slices
import Derived.ChangeArms
import Derived.DataReads
import Derived.Test.YtgplgphchdgedaaDoorRows
import Derived.WalkKit
import Derived.ProofKit
import Derived.OpenShut
import Derived.ShutString
import Derived.ChangeOld
import Derived.Below
import Derived.SizedLaws
import Derived.ChangeSame
import Derived.ChangeVars
import Derived.JoinedOf
import Derived.RowKitTokens
import Derived.LaidLaws
import Derived.LaidHandle
import Derived.LaidSub
import Derived.Stop.LaidErr
import Derived.Stop.ErrReads
import Derived.Stop.Joined
import Derived.ChangeSlices
section
namespace Go.Proofs.YtgplgphchdgedaaDoor.Px
open Go.RowKit Go.Proofs.YtgplgphchdgedaaDoorW.PrintWords Go.Proofs.YtgplgphchdgedaaDoorW.PrintLast Go.Proofs.YtgplgphchdgedaaDoor.Pl Go.Proofs.YtgplgphchdgedaaDoor.Ext
set_option linter.unusedVariables false
set_option linter.unusedSimpArgs false
/-- How many arguments an operation takes. -/
def arO (s : ByteArray) : Int := if s.toList = ([43] : List UInt8) ∨ s.toList = ([45] : List UInt8) ∨ s.toList = ([61] : List UInt8) ∨ s.toList = ([60] : List UInt8) ∨ s.toList = ([38] : List UInt8) ∨ s.toList = ([124] : List UInt8) then 2 else if s.toList = ([33] : List UInt8) then 1 else 0
theorem arO_three (s : ByteArray) : arO s = 0 ∨ arO s = 1 ∨ arO s = 2 := by unfold arO; split; exact Or.inr (Or.inr rfl); split; exact Or.inr (Or.inl rfl); exact Or.inl rfl
theorem spec_OpArity_eq (s : ByteArray) (k : Nat) (hk : 1 ≤ k) : spec_OpArity.f k s = some (arO s) := by
  obtain ⟨k, rfl⟩ : ∃ j, k = j + 1 := ⟨k - 1, by omega⟩
  simp only [spec_OpArity.f, spec_OpArity.j0, arO]
  by_cases h1 : s.toList = ([43] : List UInt8)
  · simp [h1]
  by_cases h2 : s.toList = ([45] : List UInt8)
  · simp [h1, h2]
  by_cases h3 : s.toList = ([61] : List UInt8)
  · simp [h1, h2, h3]
  by_cases h4 : s.toList = ([60] : List UInt8)
  · simp [h1, h2, h3, h4]
  by_cases h5 : s.toList = ([38] : List UInt8)
  · simp [h1, h2, h3, h4, h5]
  by_cases h6 : s.toList = ([124] : List UInt8)
  · simp [h1, h2, h3, h4, h5, h6]
  by_cases h7 : s.toList = ([33] : List UInt8)
  · simp [h1, h2, h3, h4, h5, h6, h7]
  · simp [h1, h2, h3, h4, h5, h6, h7]
theorem impl_OpArity_eq (s : ByteArray) (k : Nat) (hk : 1 ≤ k) : impl_OpArity.f k s = some (arO s) := by
  obtain ⟨k, rfl⟩ : ∃ j, k = j + 1 := ⟨k - 1, by omega⟩
  simp only [impl_OpArity.f, impl_OpArity.j0, arO]
  by_cases h1 : s.toList = ([43] : List UInt8)
  · simp [h1]
  by_cases h2 : s.toList = ([45] : List UInt8)
  · simp [h1, h2]
  by_cases h3 : s.toList = ([61] : List UInt8)
  · simp [h1, h2, h3]
  by_cases h4 : s.toList = ([60] : List UInt8)
  · simp [h1, h2, h3, h4]
  by_cases h5 : s.toList = ([38] : List UInt8)
  · simp [h1, h2, h3, h4, h5]
  by_cases h6 : s.toList = ([124] : List UInt8)
  · simp [h1, h2, h3, h4, h5, h6]
  by_cases h7 : s.toList = ([33] : List UInt8)
  · simp [h1, h2, h3, h4, h5, h6, h7]
  · simp [h1, h2, h3, h4, h5, h6, h7]
/-- Has a kind of terms a name? a type? -/
def nmd (a : Int) : Bool := decide (a = 1 ∨ a = 6 ∨ a = 10 ∨ a = 12 ∨ a = 13)
def typd (a : Int) : Bool := decide (a = 7 ∨ a = 13)
def zT (t : S33) : Bool := decide (t.f0 = 0) && (decide (t.f1.length = 0) && decide (t.f2.length = 0))
def aryTe (a : Int) (ar : Int) (ll : Int) : Int := if a = 1 ∨ a = 2 ∨ a = 3 ∨ a = 7 ∨ a = 12 then 0 else if a = 4 then ar else if a = 5 then ll else if a = 6 ∨ a = 8 ∨ a = 13 ∨ a = 15 ∨ a = 16 then 1 else if a = 9 ∨ a = 10 ∨ a = 14 then 2 else if a = 11 then 3 else -1
/-- The fields of a node. -/
def fldB (a : Int) (nm : ByteArray) (n : Int) (t : S33) (l : List ByteArray) : Bool :=
  (if a = 4 then decide (arO nm ≠ 0) else (nmd a == isName nm) && (nmd a || decide (nm.toList = ([] : List UInt8)))) && ((typd a == vT t) && ((typd a || zT t) && ((if a = 5 then labB l else decide (l.length = 0)) && decide (0 ≤ n ∧ n ≤ (if a = 2 then 999 else if a = 3 then 1 else 0)))))
def nodeB (a : Int) (nm : ByteArray) (n : Int) (t : S33) (l : List ByteArray) (m : Nat) : Bool := fldB a nm n t l && decide ((m : Int) = aryTe a (arO nm) (l.length : Int))
theorem kinds (a : Int) : a = 1 ∨ a = 2 ∨ a = 3 ∨ a = 4 ∨ a = 5 ∨ a = 6 ∨ a = 7 ∨ a = 8 ∨ a = 9 ∨ a = 10 ∨ a = 11 ∨ a = 12 ∨ a = 13 ∨ a = 14 ∨ a = 15 ∨ a = 16 ∨ (a ≠ 1 ∧ a ≠ 2 ∧ a ≠ 3 ∧ a ≠ 4 ∧ a ≠ 5 ∧ a ≠ 6 ∧ a ≠ 7 ∧ a ≠ 8 ∧ a ≠ 9 ∧ a ≠ 10 ∧ a ≠ 11 ∧ a ≠ 12 ∧ a ≠ 13 ∧ a ≠ 14 ∧ a ≠ 15 ∧ a ≠ 16) := by omega
theorem spec_l7Named_eq (a : Int) : spec_l7Named.f a = some (nmd a) := by
  unfold spec_l7Named.f nmd
  by_cases h1 : a = 1
  · simp [h1]
  by_cases h2 : a = 6
  · simp [h2]
  by_cases h3 : a = 10
  · simp [h3]
  by_cases h4 : a = 12
  · simp [h4]
  simp [h1, h2, h3, h4] <;> rfl
theorem zT_vT (t : S33) (h : zT t = true) : vT t = false := by
  simp only [zT, Bool.and_eq_true, decide_eq_true_eq] at h
  obtain ⟨h0, h1, h2⟩ := h
  have e1 : t.f1 = [] := List.length_eq_zero_iff.1 h1
  have e2 : t.f2 = [] := List.length_eq_zero_iff.1 h2
  have : formT t = false := by rw [formT_eq, h0, e1, e2]; rfl
  simp [vT, this]
theorem isName_nil (s : ByteArray) (h : s.toList = ([] : List UInt8)) : isName s = false := by
  have hs : s.size = 0 := by
    have : s.toList.length = s.size := by rw [Lib.toList_data]; exact Array.length_toList
    rw [← this, h]; rfl
  simp [isName, hs]
theorem spec_l7Fields_ev (x : S36) (hs : SmTerm x) (hn : ndType x.f3 ≤ 1048577) : Ev (fun k => spec_l7Fields.f k x.f0 x.f1 x.f2 x.f3.f0 x.f3.f1 x.f3.f2 x.f4 x.f5) (fldB x.f0 x.f1 x.f2 x.f3 x.f4) := by
  have j3 : ∀ b : Bool, Ev (fun k => spec_l7Fields.j3 k b x.f0 x.f1 x.f2 x.f3.f0 x.f3.f1 x.f3.f2 x.f4 x.f5) (!b && decide (0 ≤ x.f2 ∧ x.f2 ≤ (if x.f0 = 2 then 999 else if x.f0 = 3 then 1 else 0))) := by
    intro b
    refine Ev.up ?_
    simp only [spec_l7Fields.j3, spec_l1In_eq, Option.bind_some]
    refine Ev.cases (fun h => Ev.const (by simp [h])) (fun h => ?_)
    rw [Bool.eq_false_iff.2 h, Bool.not_false, Bool.true_and]
    refine Ev.cases (fun h2 => ?_) (fun h2 => ?_)
    · rw [if_pos h2]; exact Ev.now _
    · rw [if_neg h2]
      refine Ev.cases (fun h3 => ?_) (fun h3 => ?_)
      · rw [if_pos h3]; exact Ev.now _
      · rw [if_neg h3]; exact Ev.now _
  have j2 : ∀ b : Bool, Ev (fun k => spec_l7Fields.j2 k b x.f0 x.f1 x.f2 x.f3.f0 x.f3.f1 x.f3.f2 x.f4 x.f5) (!b && ((if x.f0 = 5 then labB x.f4 else decide (x.f4.length = 0)) && decide (0 ≤ x.f2 ∧ x.f2 ≤ (if x.f0 = 2 then 999 else if x.f0 = 3 then 1 else 0)))) := by
    intro b
    refine Ev.up ?_
    simp only [spec_l7Fields.j2]
    refine Ev.cases (fun h => Ev.const (by simp [h])) (fun h => ?_)
    rw [Bool.eq_false_iff.2 h, Bool.not_false, Bool.true_and]
    refine Ev.cases (fun h5 => ?_) (fun h5 => ?_)
    · rw [if_pos h5]
      refine Ev.bind (spec_l3Labels_ev x.f4 hs.p4.1 hs.p4.2) ?_
      refine Ev.cases (fun g => ?_) (fun g => ?_)
      · rw [g]; exact j3 false
      · rw [Bool.eq_false_iff.2 g]; exact j3 true
    · rw [if_neg h5]
      refine Ev.eq (j3 _) ?_
      by_cases hl : x.f4.length = 0
      · simp [hl]
      · rw [decide_eq_false hl, decide_eq_true (by omega : (x.f4.length : Int) > 0)]; rfl
  have j1 : ∀ b : Bool, Ev (fun k => spec_l7Fields.j1 k b x.f0 x.f1 x.f2 x.f3.f0 x.f3.f1 x.f3.f2 x.f4 x.f5) ((b == vT x.f3) && ((b || zT x.f3) && ((if x.f0 = 5 then labB x.f4 else decide (x.f4.length = 0)) && decide (0 ≤ x.f2 ∧ x.f2 ≤ (if x.f0 = 2 then 999 else if x.f0 = 3 then 1 else 0))))) := by
    intro b
    refine Ev.up ?_
    simp only [spec_l7Fields.j1]
    refine Ev.bind (spec_IsValidType_ev x.f3 hs.p3 hn) ?_
    refine Ev.cases (fun h1 => ?_) (fun h1 => ?_)
    · rw [h1]
      refine Ev.cases (fun hv => ?_) (fun hv => ?_)
      · rw [hv]; exact Ev.eq (j2 false) (by simp)
      · rw [Bool.eq_false_iff.2 hv]; exact Ev.eq (j2 true) (by simp)
    rw [Bool.eq_false_iff.2 h1]
    refine Ev.cases (fun hv => ?_) (fun hv => ?_)
    · rw [hv]; exact Ev.eq (j2 true) (by simp)
    rw [Bool.eq_false_iff.2 hv, Bool.false_or, show (false == false) = true from rfl, Bool.true_and]
    unfold zT
    refine Ev.cases (fun h0 => ?_) (fun h0 => ?_)
    · rw [decide_eq_true h0, Bool.true_and]
      refine Ev.cases (fun hl => ?_) (fun hl => ?_)
      · rw [decide_eq_false (by omega : ¬ x.f3.f1.length = 0), Bool.false_and]; exact j2 true
      · rw [decide_eq_true (by omega : x.f3.f1.length = 0), Bool.true_and]
        refine Ev.eq (j2 _) ?_
        by_cases hl : x.f3.f2.length = 0
        · simp [hl]
        · rw [decide_eq_false hl, decide_eq_true (by omega : (x.f3.f2.length : Int) > 0)]; rfl
    · rw [decide_eq_false h0, Bool.false_and]; exact j2 true
  have j0 : Ev (fun k => spec_l7Fields.j0 k x.f0 x.f1 x.f2 x.f3.f0 x.f3.f1 x.f3.f2 x.f4 x.f5) ((typd x.f0 == vT x.f3) && ((typd x.f0 || zT x.f3) && ((if x.f0 = 5 then labB x.f4 else decide (x.f4.length = 0)) && decide (0 ≤ x.f2 ∧ x.f2 ≤ (if x.f0 = 2 then 999 else if x.f0 = 3 then 1 else 0))))) := by
    refine Ev.up ?_
    simp only [spec_l7Fields.j0]
    refine Ev.cases (fun h => ?_) (fun h => ?_)
    · rw [show typd x.f0 = true from by simp [typd, h]]; exact j1 true
    · rw [show typd x.f0 = (x.f0 == 13) from by by_cases h13 : x.f0 = 13 <;> simp [typd, h, h13]]; exact j1 _
  simp only [spec_l7Fields.f, fldB]
  refine Ev.cases (fun h4 => ?_) (fun h4 => ?_)
  · rw [if_pos h4]
    refine Ev.bind ⟨1, fun k hk => spec_OpArity_eq x.f1 k hk⟩ ?_
    refine Ev.cases (fun h => ?_) (fun h => ?_)
    · rw [decide_eq_false (by simpa using h), Bool.false_and]; exact Ev.now _
    · rw [decide_eq_true h, Bool.true_and]; exact j0
  · rw [if_neg h4]
    simp only [spec_l7Named_eq, Option.bind_some]
    refine Ev.bind (spec_IsName_ev x.f1 hs.p1) ?_
    refine Ev.cases (fun h => ?_) (fun h => ?_)
    · rw [h]
      refine Ev.cases (fun hi => ?_) (fun hi => ?_)
      · rw [hi]; exact Ev.eq j0 (by simp)
      · rw [Bool.eq_false_iff.2 hi]; exact Ev.const (by simp)
    · rw [Bool.eq_false_iff.2 h]
      refine Ev.cases (fun hi => ?_) (fun hi => ?_)
      · rw [hi]; exact Ev.const (by simp)
      · rw [Bool.eq_false_iff.2 hi]
        refine Ev.cases (fun h2 => ?_) (fun h2 => ?_)
        · rw [decide_eq_true h2]; exact Ev.eq j0 (by simp)
        · rw [decide_eq_false h2]; exact Ev.const (by simp)
theorem spec_l7Arity_eq (x : S36) (k : Nat) (hk : 4 ≤ k) : spec_l7Arity.f k x.f0 x.f1 x.f2 x.f3.f0 x.f3.f1 x.f3.f2 x.f4 x.f5 = some (aryTe x.f0 (arO x.f1) (x.f4.length : Int)) := by
  obtain ⟨k, rfl⟩ : ∃ j, k = j + 4 := ⟨k - 4, by omega⟩
  generalize x.f0 = a
  rcases kinds a with rfl | rfl | rfl | rfl | rfl | rfl | rfl | rfl | rfl | rfl | rfl | rfl | rfl | rfl | rfl | rfl | ⟨h1, h2, h3, h4, h5, h6, h7, h8, h9, h10, h11, h12, h13, h14, h15, h16⟩
  all_goals simp [spec_l7Arity.f, spec_l7Arity.j0, spec_l7Arity.j1, spec_l7Arity.j2, aryTe, spec_OpArity_eq x.f1 _ (Nat.succ_le_succ (Nat.zero_le _)), *]
mutual
def formTe : S36 → Bool
  | ⟨a, nm, n, t, l, xs⟩ => formTeS xs && nodeB a nm n t l xs.length
def formTeS : List S36 → Bool
  | [] => true
  | x :: r => formTe x && formTeS r
end
theorem formTe_eq (x : S36) : formTe x = (formTeS x.f5 && nodeB x.f0 x.f1 x.f2 x.f3 x.f4 x.f5.length) := by cases x; simp only [formTe]
theorem formTeS_all (xs : List S36) : formTeS xs = xs.all formTe := by
  induction xs with
  | nil => rfl
  | cons x r ih => simp [formTeS, ih]
mutual
/-- The greatest number of nodes of a type within a term. -/
def tyTe : S36 → Nat
  | ⟨_, _, _, t, _, xs⟩ => max (ndType t) (tyTeS xs)
def tyTeS : List S36 → Nat
  | [] => 0
  | x :: r => max (tyTe x) (tyTeS r)
end
theorem tyTe_eq (x : S36) : tyTe x = max (ndType x.f3) (tyTeS x.f5) := by cases x; simp only [tyTe]
theorem tyTeS_le (xs : List S36) (n : Nat) : tyTeS xs ≤ n ↔ ∀ y ∈ xs, tyTe y ≤ n := by
  induction xs with
  | nil => simp [tyTeS]
  | cons x r ih => simp [tyTeS, Nat.max_le, ih]
theorem tyTe_cv : ∀ x : S28, tyTe (cvTerm x) ≤ wtTerm x + 1 := by
  refine indTermL fun x ih => ?_
  rw [tyTe_eq, cvTerm_eq, wtTerm_eq]
  dsimp only
  have h1 := ndType_cv x.f3
  have h2 : tyTeS (cvTermS x.f5) ≤ wtTermS x.f5 + 1 := by
    rw [tyTeS_le, cvTermS_map]
    intro y hy
    obtain ⟨z, hz, rfl⟩ := List.mem_map.1 hy
    have := sum_le_of_mem wtTerm hz
    rw [← wtTermS_sum] at this
    have := ih z hz
    omega
  omega
theorem spec_l7Form_ev : ∀ x : S36, SmTerm x → tyTe x ≤ 1048577 → Ev (fun k => spec_l7Form.f k x.f0 x.f1 x.f2 x.f3.f0 x.f3.f1 x.f3.f2 x.f4 x.f5) (formTe x) := by
  refine indTermI fun x ih hs ht => ?_
  rw [tyTe_eq] at ht
  have ht2 := (tyTeS_le x.f5 1048577).1 (by omega)
  rw [formTe_eq, formTeS_all]
  refine Ev.up ?_
  simp only [spec_l7Form.f]
  refine all_ev x.f5 z36 formTe _ (fun k i => spec_l7Form.l0 k (i : Int) x.f0 x.f1 x.f2 x.f3.f0 x.f3.f1 x.f3.f2 x.f4 x.f5) (fun k i => spec_l7Form.f k (rd_T36 x.f5 (i : Int)).f0 (rd_T36 x.f5 (i : Int)).f1 (rd_T36 x.f5 (i : Int)).f2 (rd_T36 x.f5 (i : Int)).f3.f0 (rd_T36 x.f5 (i : Int)).f3.f1 (rd_T36 x.f5 (i : Int)).f3.f2 (rd_T36 x.f5 (i : Int)).f4 (rd_T36 x.f5 (i : Int)).f5) (fun k i hi => ?_) ?_ (fun i hi => ih (x.f5.getD i z36) (mem_getD x.f5 z36 i hi) (hs.p5.2 _ (mem_getD x.f5 z36 i hi)) (ht2 _ (mem_getD x.f5 z36 i hi)))
  · simp only [spec_l7Form.l0]
    rw [if_pos (by omega), if_pos (by omega), w1' hi hs.p5.1]
  · refine Ev.up ?_
    simp only [spec_l7Form.l0]
    refine Ev.neg (by omega) ?_
    unfold nodeB
    refine Ev.bind (spec_l7Fields_ev x hs (by omega)) ?_
    refine Ev.cases (fun g => ?_) (fun g => ?_)
    · rw [g, Bool.true_and]
      refine Ev.bind ⟨4, fun k hk => spec_l7Arity_eq x k hk⟩ (Ev.const ?_)
      by_cases he : (x.f5.length : Int) = aryTe x.f0 (arO x.f1) (x.f4.length : Int)
      · rw [decide_eq_true he]; simpa using he
      · rw [decide_eq_false he]; simpa using he
    · rw [Bool.eq_false_iff.2 g]; exact Ev.now _

end Go.Proofs.YtgplgphchdgedaaDoor.Px
end
section
namespace Go.Proofs.YtgplgphchdgedaaDoor.Px
open Go.RowKit Go.Proofs.YtgplgphchdgedaaDoorW.PrintWords Go.Proofs.YtgplgphchdgedaaDoorW.PrintLast Go.Proofs.YtgplgphchdgedaaDoor.Pl Go.Proofs.YtgplgphchdgedaaDoor.Ext
set_option linter.unusedVariables false
set_option linter.unusedSimpArgs false
theorem spec_l1Max_eqTe (a b : Int) : spec_l1Max.f a b = some (mx a b) := by
  rw [mx_eq]; unfold spec_l1Max.f; split <;> rfl
theorem DepthOfTerm_same_ : ∀ x : S36, SmTerm x → Same (fun k => spec_DepthOfTerm.f k x.f0 x.f1 x.f2 x.f3.f0 x.f3.f1 x.f3.f2 x.f4 x.f5) (fun k => impl_DepthOfTerm.f k x.f0 x.f1 x.f2 x.f3.f0 x.f3.f1 x.f3.f2 x.f4 x.f5) := by
  refine indTermI fun x ih hs => ?_
  refine Same.up ?_
  simp only [spec_DepthOfTerm.f, impl_DepthOfTerm.f]
  refine Same.loop x.f5.length (fun k (s : Int) i => spec_DepthOfTerm.l0 k s (i : Int) x.f0 x.f1 x.f2 x.f3.f0 x.f3.f1 x.f3.f2 x.f4 x.f5) (fun k s i => impl_DepthOfTerm.l0 k s (x.f5.length : Int) (i : Int) x.f0 x.f1 x.f2 x.f3.f0 x.f3.f1 x.f3.f2 x.f4 x.f5) (fun s => ?_) (fun i s hi ihl => ?_) 0
  · refine Same.up ?_
    simp only [spec_DepthOfTerm.l0, impl_DepthOfTerm.l0]
    exact Same.neg (by omega) (by omega) (Same.ret rfl)
  · refine Same.up ?_
    simp only [spec_DepthOfTerm.l0, impl_DepthOfTerm.l0, w1' hi hs.p5.1, spec_l1Max_eqTe, Option.bind_some]
    refine Same.pos (by omega) (by omega) (Same.pos (by omega) (by omega) (Same.posR (by omega) ?_))
    exact Same.bind (ih (x.f5.getD i z36) (mem_getD x.f5 z36 i hi) (hs.p5.2 _ (mem_getD x.f5 z36 i hi))) (fun t _ _ => ihl _)
end Go.Proofs.YtgplgphchdgedaaDoor.Px
end
section
namespace Go.Proofs.YtgplgphchdgedaaDoor.Px
open Go.RowKit Go.Proofs.YtgplgphchdgedaaDoorW.PrintWords Go.Proofs.YtgplgphchdgedaaDoorW.PrintLast Go.Proofs.YtgplgphchdgedaaDoor.Pl Go.Proofs.YtgplgphchdgedaaDoor.Ext
set_option linter.unusedVariables false
set_option linter.unusedSimpArgs false
/-- What the program knows of a kind: how many arguments, has it a name, a type; is it one. -/
def shp (a : Int) (ar : Int) (lb : Bool) (ll : Int) : Int × Bool × Bool × Bool :=
 if a = 1 ∨ a = 12 then (0, true, false, true) else if a = 2 ∨ a = 3 then (0, false, false, true) else if a = 4 then (ar, true, false, decide (ar > 0)) else if a = 5 then (ll, false, false, lb) else if a = 6 then (1, true, false, true) else if a = 7 then (0, false, true, true) else if a = 8 ∨ a = 15 ∨ a = 16 then (1, false, false, true) else if a = 9 ∨ a = 14 then (2, false, false, true) else if a = 10 then (2, true, false, true) else if a = 11 then (3, false, false, true) else if a = 13 then (1, true, true, true) else (0, false, false, false)
theorem impl_shape_ev (x : S36) (hs : SmTerm x) : Ev (fun k => impl_shape.f k x.f0 x.f1 x.f2 x.f3.f0 x.f3.f1 x.f3.f2 x.f4 x.f5) (shp x.f0 (arO x.f1) (labB x.f4) (x.f4.length : Int)) := by
 obtain ⟨K, hK⟩ := impl_labelsOk_ev x.f4 hs.p4.1 hs.p4.2
 refine ⟨K + 5, fun k hk => ?_⟩
 obtain ⟨k, rfl⟩ : ∃ j, k = j + 5 := ⟨k - 5, by omega⟩
 have hL : ∀ j, impl_labelsOk.f (k + j) x.f4 = some (labB x.f4) := fun j => hK (k + j) (by omega)
 have hO : ∀ j, impl_OpArity.f (k + (j + 1)) x.f1 = some (arO x.f1) := fun j => impl_OpArity_eq x.f1 _ (by omega)
 have h3 := hL 3
 have o3 := hO 2
 show impl_shape.f (k + 5) x.f0 x.f1 x.f2 x.f3.f0 x.f3.f1 x.f3.f2 x.f4 x.f5 = _
 generalize x.f0 = a
 rcases kinds a with rfl | rfl | rfl | rfl | rfl | rfl | rfl | rfl | rfl | rfl | rfl | rfl | rfl | rfl | rfl | rfl | ⟨h1, h2, h3', h4, h5, h6, h7, h8, h9, h10, h11, h12, h13, h14, h15, h16⟩
 all_goals simp [impl_shape.f, impl_shape.j0, impl_shape.j1, impl_shape.j2, impl_shape.j3, shp, *]
theorem impl_isZeroType_eq (t : S33) : impl_isZeroType.f t.f0 t.f1 t.f2 = some (zT t) := by
 unfold impl_isZeroType.f zT
 by_cases h0 : t.f0 = 0
 case neg =>
  rw [if_neg h0, decide_eq_false h0]; rfl
 by_cases h1 : t.f1.length = 0
 case neg =>
  rw [if_pos h0, if_neg (by omega), decide_eq_false h1]; simp
 by_cases h2 : t.f2.length = 0
 case neg =>
  simp [h0, h1, h2]
 simp [h0, h1, h2]
/-- One node, as_ the program looks at it. -/
def nodeI (a : Int) (nm : ByteArray) (n : Int) (t : S33) (l : List ByteArray) (m : Nat) (s : Int × Bool × Bool × Bool) : Bool :=
 (s.2.2.2 && (decide ((m : Int) = s.1) && (decide (a = 5) || decide (l.length = 0)))) && ((!(decide (a = 2) && (decide (n < 0) || decide (n > 999))) && (!(decide (a = 3) && (decide (n ≠ 0) && decide (n ≠ 1))) && !(decide (a ≠ 2) && (decide (a ≠ 3) && decide (n ≠ 0))))) && ((if s.2.1 = true then decide (a = 4) || isName nm else decide (nm.toList = ([] : List UInt8))) && (if s.2.2.1 = true then vT t else zT t)))
theorem impl_nodeForm_ev (x : S36) (hs : SmTerm x) (hn : ndType x.f3 ≤ 1048577) : Ev (fun k => impl_nodeForm.f k x.f0 x.f1 x.f2 x.f3.f0 x.f3.f1 x.f3.f2 x.f4 x.f5) (nodeI x.f0 x.f1 x.f2 x.f3 x.f4 x.f5.length (shp x.f0 (arO x.f1) (labB x.f4) (x.f4.length : Int))) := by
 generalize hS : shp x.f0 (arO x.f1) (labB x.f4) (x.f4.length : Int) = s
 have j4 : ∀ b : Bool, Ev (fun k => impl_nodeForm.j4 k b x.f3.f0 x.f3.f1 x.f3.f2) (if b = true then vT x.f3 else zT x.f3) := by
  intro b
  refine Ev.up ?_
  simp only [impl_nodeForm.j4]
  refine Ev.cases (fun h => ?_) (fun h => ?_)
  ·rw [if_pos h]; exact Ev.bind (impl_IsValidType_ev x.f3 hs.p3 hn) (Ev.now _)
  ·rw [if_neg h, impl_isZeroType_eq]; exact Ev.now _
 have j3 : ∀ b c d : Bool, Ev (fun k => impl_nodeForm.j3 k b c d x.f1 x.f3.f0 x.f3.f1 x.f3.f2) (!d && ((b || decide (x.f1.toList = ([] : List UInt8))) && (if c = true then vT x.f3 else zT x.f3))) := by
  intro b c d
  refine Ev.up ?_
  simp only [impl_nodeForm.j3]
  refine Ev.cases (fun h => Ev.const (by simp [h])) (fun h => ?_)
  rw [Bool.eq_false_iff.2 h, Bool.not_false, Bool.true_and]
  refine Ev.cases (fun h1 => ?_) (fun h1 => ?_)
  ·rw [h1, Bool.true_or, Bool.true_and]; exact j4 c
  rw [Bool.eq_false_iff.2 h1, Bool.false_or]
  refine Ev.cases (fun h2 => ?_) (fun h2 => ?_)
  ·rw [decide_eq_true h2, Bool.true_and]; exact j4 c
  ·rw [decide_eq_false h2, Bool.false_and]; exact Ev.now _
 have j2 : ∀ d : Bool, Ev (fun k => impl_nodeForm.j2 k s.2.1 s.2.2.1 d x.f0 x.f1 x.f3.f0 x.f3.f1 x.f3.f2) (!d && ((if s.2.1 = true then decide (x.f0 = 4) || isName x.f1 else decide (x.f1.toList = ([] : List UInt8))) && (if s.2.2.1 = true then vT x.f3 else zT x.f3))) := by
  intro d
  refine Ev.up ?_
  simp only [impl_nodeForm.j2]
  refine Ev.cases (fun h => Ev.const (by simp [h])) (fun h => ?_)
  rw [Bool.eq_false_iff.2 h, Bool.not_false, Bool.true_and]
  refine Ev.cases (fun h1 => ?_) (fun h1 => ?_)
  ·rw [if_pos h1]
   refine Ev.cases (fun h4 => ?_) (fun h4 => ?_)
   ·refine Ev.eq (j3 s.2.1 s.2.2.1 false) ?_
    simp [h1, h4]
   ·refine Ev.bind (impl_IsName_ev x.f1 hs.p1) ?_
    refine Ev.eq (j3 s.2.1 s.2.2.1 _) ?_
    simp [h1, h4]
  ·rw [if_neg h1]
   refine Ev.eq (j3 s.2.1 s.2.2.1 false) ?_
   simp [Bool.eq_false_iff.2 h1]
 have j1 : ∀ d : Bool, Ev (fun k => impl_nodeForm.j1 k s.2.1 s.2.2.1 d x.f0 x.f1 x.f2 x.f3.f0 x.f3.f1 x.f3.f2) (!d && ((!(decide (x.f0 = 3) && (decide (x.f2 ≠ 0) && decide (x.f2 ≠ 1))) && !(decide (x.f0 ≠ 2) && (decide (x.f0 ≠ 3) && decide (x.f2 ≠ 0)))) && ((if s.2.1 = true then decide (x.f0 = 4) || isName x.f1 else decide (x.f1.toList = ([] : List UInt8))) && (if s.2.2.1 = true then vT x.f3 else zT x.f3)))) := by
  intro d
  refine Ev.up ?_
  simp only [impl_nodeForm.j1]
  refine Ev.cases (fun h => ?_) (fun h => ?_)
  ·rw [h]; exact Ev.eq (j2 true) (by simp)
  rw [Bool.eq_false_iff.2 h, Bool.not_false, Bool.true_and]
  refine Ev.cases (fun h3 => ?_) (fun h3 => ?_)
  ·have h2 : ¬ x.f0 = 2 := by omega
   refine Ev.cases (fun n0 => ?_) (fun n0 => ?_)
   ·exact Ev.neg h2 (Ev.eq (j2 false) (by simp [h3, n0]))
   refine Ev.cases (fun n1 => ?_) (fun n1 => ?_)
   ·exact Ev.neg h2 (Ev.eq (j2 false) (by simp [h3, n1]))
   ·refine Ev.eq (j2 _) ?_
    simp [h3, n0, n1]
  ·refine Ev.cases (fun h2 => ?_) (fun h2 => ?_)
   ·exact Ev.eq (j2 false) (by simp [h2])
   ·refine Ev.eq (j2 _) ?_
    by_cases n0 : x.f2 = 0
    case neg =>
     simp [h2, h3, n0]
    simp [h2, h3, n0]
 have j0 : ∀ d : Bool, Ev (fun k => impl_nodeForm.j0 k s.2.1 s.2.2.1 d x.f0 x.f1 x.f2 x.f3.f0 x.f3.f1 x.f3.f2) (!d && ((!(decide (x.f0 = 2) && (decide (x.f2 < 0) || decide (x.f2 > 999))) && (!(decide (x.f0 = 3) && (decide (x.f2 ≠ 0) && decide (x.f2 ≠ 1))) && !(decide (x.f0 ≠ 2) && (decide (x.f0 ≠ 3) && decide (x.f2 ≠ 0))))) && ((if s.2.1 = true then decide (x.f0 = 4) || isName x.f1 else decide (x.f1.toList = ([] : List UInt8))) && (if s.2.2.1 = true then vT x.f3 else zT x.f3)))) := by
  intro d
  refine Ev.up ?_
  simp only [impl_nodeForm.j0]
  refine Ev.cases (fun h => Ev.const (by simp [h])) (fun h => ?_)
  rw [Bool.eq_false_iff.2 h, Bool.not_false, Bool.true_and]
  refine Ev.cases (fun h2 => ?_) (fun h2 => ?_)
  ·refine Ev.cases (fun n0 => ?_) (fun n0 => ?_)
   ·exact Ev.eq (j1 true) (by simp [h2, n0])
   ·refine Ev.eq (j1 _) ?_
    by_cases n9 : x.f2 > 999
    case neg =>
     simp [h2, n0, n9]
    simp [h2, n0, n9]
  ·exact Ev.eq (j1 false) (by simp [h2])
 simp only [impl_nodeForm.f, nodeI]
 have sh := impl_shape_ev x hs
 rw [hS] at sh
 refine Ev.bind sh ?_
 refine Ev.cases (fun h => ?_) (fun h => ?_)
 ·rw [h, Bool.true_and]
  refine Ev.cases (fun hm => ?_) (fun hm => ?_)
  ·rw [decide_eq_true hm, Bool.true_and]
   refine Ev.cases (fun h5 => ?_) (fun h5 => ?_)
   ·exact Ev.eq (j0 false) (by simp [h5])
   ·refine Ev.eq (j0 _) ?_
    by_cases hl : x.f4.length = 0
    ·simp [hl, h5]
    rw [decide_eq_false hl, decide_eq_false h5, decide_eq_true (by omega : (x.f4.length : Int) > 0)]; rfl
  ·rw [decide_eq_false hm]; exact Ev.eq (j0 true) (by simp)
 ·rw [Bool.eq_false_iff.2 h]; exact Ev.eq (j0 true) (by simp)
theorem nodeI_eq (a : Int) (nm : ByteArray) (n : Int) (t : S33) (l : List ByteArray) (m : Nat) : nodeI a nm n t l m (shp a (arO nm) (labB l) (l.length : Int)) = nodeB a nm n t l m := by
 have hz := zT_vT t
 have hi := isName_nil nm
 have h3 := arO_three nm
 unfold nodeI nodeB fldB
 generalize arO nm = ar at *
 generalize vT t = v at *
 generalize zT t = z at *
 generalize labB l = lb at *
 generalize isName nm = i at *
 generalize (l.length : Int) = ll at *
 generalize hd : decide (nm.toList = ([] : List UInt8)) = e at *
 have hi' : e = true → i = false := fun h => hi (of_decide_eq_true (hd.trans h))
 clear hi hd
 generalize hl0 : decide (l.length = 0) = l0 at *
 clear hl0
 have hm0 : (0 : Int) ≤ (m : Int) := by omega
 generalize (m : Int) = mm at *
 rcases kinds a with rfl | rfl | rfl | rfl | rfl | rfl | rfl | rfl | rfl | rfl | rfl | rfl | rfl | rfl | rfl | rfl | ⟨h1, h2, h3', h4, h5, h6, h7, h8, h9, h10, h11, h12, h13, h14, h15, h16⟩
 all_goals (simp only [shp, aryTe, nmd, typd]; rw [Bool.eq_iff_iff]; cases v <;> cases z <;> cases i <;> cases e <;> simp_all <;> (first | omega | (cases l0 <;> cases lb <;> simp <;> omega)))
theorem impl_termForm_ev : ∀ x : S36, SmTerm x → tyTe x ≤ 1048577 → Ev (fun k => impl_termForm.f k x.f0 x.f1 x.f2 x.f3.f0 x.f3.f1 x.f3.f2 x.f4 x.f5) (formTe x) := by
 refine indTermI fun x ih hs ht => ?_
 rw [tyTe_eq] at ht
 have ht2 := (tyTeS_le x.f5 1048577).1 (by omega)
 rw [formTe_eq, formTeS_all, Bool.and_comm]
 refine Ev.up ?_
 simp only [impl_termForm.f]
 have hN := impl_nodeForm_ev x hs (by omega)
 rw [nodeI_eq] at hN
 refine Ev.bind hN ?_
 refine Ev.cases (fun g => ?_) (fun g => ?_)
 ·rw [g, Bool.true_and]
  refine Ev.eq (all_ev x.f5 z36 formTe true (fun k i => impl_termForm.l0 k (x.f5.length : Int) (i : Int) x.f5) (fun k i => impl_termForm.f k (rd_T36 x.f5 (i : Int)).f0 (rd_T36 x.f5 (i : Int)).f1 (rd_T36 x.f5 (i : Int)).f2 (rd_T36 x.f5 (i : Int)).f3.f0 (rd_T36 x.f5 (i : Int)).f3.f1 (rd_T36 x.f5 (i : Int)).f3.f2 (rd_T36 x.f5 (i : Int)).f4 (rd_T36 x.f5 (i : Int)).f5) (fun k i hi => ?_) ?_ (fun i hi => ih (x.f5.getD i z36) (mem_getD x.f5 z36 i hi) (hs.p5.2 _ (mem_getD x.f5 z36 i hi)) (ht2 _ (mem_getD x.f5 z36 i hi)))) (Bool.and_true _)
  ·simp only [impl_termForm.l0]
   rw [if_pos (by omega), if_pos (by omega), if_pos (by omega), w1' hi hs.p5.1]
  ·refine Ev.up ?_
   simp only [impl_termForm.l0]
   exact Ev.neg (by omega) (Ev.now _)
 ·rw [Bool.eq_false_iff.2 g]; exact Ev.now _

end Go.Proofs.YtgplgphchdgedaaDoor.Px
end
section
namespace Go.Proofs.YtgplgphchdgedaaDoor.Px
open Go.RowKit Go.Proofs.YtgplgphchdgedaaDoorW.PrintWords Go.Proofs.YtgplgphchdgedaaDoorW.PrintLast Go.Proofs.YtgplgphchdgedaaDoor.Pl Go.Proofs.YtgplgphchdgedaaDoor.Ext
set_option linter.unusedVariables false
set_option linter.unusedSimpArgs false
theorem impl_sizeOf_ev : ∀ x : S36, SmTerm x → ndTerm x ≤ 1048577 → Ev (fun k => impl_sizeOf.f k x.f0 x.f1 x.f2 x.f3.f0 x.f3.f1 x.f3.f2 x.f4 x.f5) (ndTerm x : Int) := by
  refine indTermI fun x ih hs hn => ?_
  refine Ev.up ?_
  simp only [impl_sizeOf.f]
  rw [ndTerm_eq] at hn ⊢
  have hw := fold_loop x.f5.length (fun k i => impl_sizeOf.f k (rd_T36 x.f5 (i : Int)).f0 (rd_T36 x.f5 (i : Int)).f1 (rd_T36 x.f5 (i : Int)).f2 (rd_T36 x.f5 (i : Int)).f3.f0 (rd_T36 x.f5 (i : Int)).f3.f1 (rd_T36 x.f5 (i : Int)).f3.f2 (rd_T36 x.f5 (i : Int)).f4 (rd_T36 x.f5 (i : Int)).f5) (fun k (s : Int) i => impl_sizeOf.l0 k s (x.f5.length : Int) (i : Int) x.f5) (fun s t => wrap64 (s + t)) (fun i => (ndTerm (x.f5.getD i z36) : Int)) (fun s => s)
    (fun k s i hi => by
      simp only [impl_sizeOf.l0]
      rw [if_pos (by omega), if_pos (by omega), if_pos (by omega), w1' hi hs.p5.1])
    (fun k s => by simp only [impl_sizeOf.l0]; rw [if_neg (by omega)])
    (fun i hi => ih (x.f5.getD i z36) (mem_getD x.f5 z36 i hi) (hs.p5.2 _ (mem_getD x.f5 z36 i hi)) (by have := sum_le_of_mem ndTerm (mem_getD x.f5 z36 i hi); omega)) x.f5.length 0 1 (by omega)
  refine Ev.eq hw ?_
  have h1 := foldl_range (fun (s : Int) (y : S36) => wrap64 (s + (ndTerm y : Int))) z36 x.f5 1
  have h2 := fold_wrap ndTerm x.f5 1 (by omega)
  exact h1.trans h2
theorem spec_l7Left_ev : ∀ x : S36, SmTerm x → ∀ n : Int, 0 ≤ n → n ≤ 1048577 → ∃ r, Ev (fun k => spec_l7Left.f k x.f0 x.f1 x.f2 x.f3.f0 x.f3.f1 x.f3.f2 x.f4 x.f5 n) r ∧ ((ndTerm x : Int) ≤ n → r = n - ndTerm x) ∧ (n < ndTerm x → r < 0) ∧ r ≤ 1048577 := by
  refine indTermI fun x ih hs n hn hn2 => ?_
  rw [ndTerm_eq]
  have loop : ∀ m i s, i + m = x.f5.length → s ≤ 1048577 → ∃ r, Ev (fun k => spec_l7Left.l0 k s (i : Int) x.f0 x.f1 x.f2 x.f3.f0 x.f3.f1 x.f3.f2 x.f4 x.f5) r ∧ (0 ≤ s → (((((x.f5.drop i).map ndTerm).sum : Nat) : Int) ≤ s → r = s - (((x.f5.drop i).map ndTerm).sum : Nat)) ∧ (s < (((x.f5.drop i).map ndTerm).sum : Nat) → r < 0)) ∧ (s < 0 → r < 0) ∧ r ≤ 1048577 := by
    intro m
    induction m with
    | zero =>
      intro i s hi hs1
      refine ⟨s, Ev.up ?_, fun h => ?_, id, hs1⟩
      · simp only [spec_l7Left.l0]; exact Ev.neg (by omega) (Ev.now _)
      · rw [List.drop_of_length_le (by omega)]; simp <;> omega
    | succ m ihm =>
      intro i s hi hs1
      have hlt : i < x.f5.length := by omega
      have e : x.f5.getD i z36 = x.f5[i] := by simp [List.getD_eq_getElem?_getD, hlt]
      by_cases h0 : 0 ≤ s
      · obtain ⟨r, h1, h2, h3, h4⟩ := ih (x.f5.getD i z36) (mem_getD x.f5 z36 i hlt) (hs.p5.2 _ (mem_getD x.f5 z36 i hlt)) s h0 hs1
        obtain ⟨u, g1, g2, g3, g4⟩ := ihm (i + 1) r (by omega) h4
        refine ⟨u, Ev.up ?_, fun _ => ?_, fun h => by omega, g4⟩
        · simp only [spec_l7Left.l0, w1' hlt hs.p5.1]
          exact Ev.pos (by omega) (Ev.pos h0 (Ev.pos (by omega) (Ev.bind h1 g1)))
        · rw [List.drop_eq_getElem_cons hlt, List.map_cons, List.sum_cons, ← e]
          by_cases hc : (ndTerm (x.f5.getD i z36) : Int) ≤ s
          · have := h2 hc
            have := g2 (by omega)
            omega
          · have := h3 (by omega)
            have := g3 (by omega)
            omega
      · refine ⟨s, Ev.up ?_, fun h => absurd h h0, id, hs1⟩
        simp only [spec_l7Left.l0]
        exact Ev.pos (by omega) (Ev.neg (by omega) (Ev.now _))
  obtain ⟨r, h1, h2, h3, h4⟩ := loop x.f5.length 0 (n - 1) (by omega) (by omega)
  refine ⟨r, Ev.up ?_, ?_, ?_, h4⟩
  · simp only [spec_l7Left.f]
    rw [w64 (a := n - 1) (by omega) (by omega)]
    exact h1
  · intro h; have := h2 (by omega); simp at this; omega
  · intro h
    by_cases h0 : 0 ≤ n - 1
    · have := h2 h0; simp at this; omega
    · exact h3 (by omega)
end Go.Proofs.YtgplgphchdgedaaDoor.Px
end
section
namespace Go.Proofs.YtgplgphchdgedaaDoor.Px
open Go.RowKit Go.Proofs.YtgplgphchdgedaaDoorW.PrintWords Go.Proofs.YtgplgphchdgedaaDoorW.PrintLast Go.Proofs.YtgplgphchdgedaaDoor.Pl Go.Proofs.YtgplgphchdgedaaDoor.Ext
set_option linter.unusedVariables false
set_option linter.unusedSimpArgs false
def txX (x : S36) : ByteArray := ⟨(txL x).toArray⟩
theorem txX_data (x : S36) : (txX x).data.toList = txL x := by simp [txX]
theorem txX_size (x : S36) : (txX x).size = (txL x).length := by simp [txX, ByteArray.size]
theorem txX_of (x : S36) (E : ByteArray) (h : E.data.toList = bodyL x.f0 x.f1 x.f2 x.f3 x.f4 (x.f5.map txL)) : E = txX x := ba_ext (by rw [txX_data, txL_eq]; exact h)
theorem ary_facts (a ar ll : Int) (m : Nat) (h3 : ar = 0 ∨ ar = 1 ∨ ar = 2) (h0 : a = 4 → ar ≠ 0) (h : (m : Int) = aryTe a ar ll) : (a = 1 ∨ a = 2 ∨ a = 3 ∨ a = 4 ∨ a = 5 ∨ a = 6 ∨ a = 7 ∨ a = 8 ∨ a = 9 ∨ a = 10 ∨ a = 11 ∨ a = 12 ∨ a = 13 ∨ a = 14 ∨ a = 15 ∨ a = 16) ∧ manyL a ≤ m ∧ (a = 4 → m = 1 ∨ m = 2) ∧ (a = 5 → (m : Int) = ll) ∧ (a = 9 ∨ a = 10 ∨ a = 14 → m = 2) ∧ (a = 11 → m = 3) ∧ (a = 6 ∨ a = 8 ∨ a = 13 ∨ a = 15 ∨ a = 16 → m = 1) := by
  unfold aryTe at h
  unfold manyL
  rcases kinds a with rfl | rfl | rfl | rfl | rfl | rfl | rfl | rfl | rfl | rfl | rfl | rfl | rfl | rfl | rfl | rfl | ⟨h1, h2, h3', h4, h5, h6, h7, h8, h9, h10, h11, h12, h13, h14, h15, h16⟩
  all_goals first
    | (simp at h0 h ⊢; done)
    | (simp at h0 h ⊢; omega)
    | (simp at h ⊢; done)
    | (simp at h ⊢; omega)
    | (exfalso; simp [*] at h; omega)
theorem arO_size (s : ByteArray) (h : arO s ≠ 0) : s.size ≤ 4 := by
  have hs : s.toList.length = s.size := by rw [Lib.toList_data]; exact Array.length_toList
  unfold arO at h
  split at h
  · rename_i g
    rcases g with g | g | g | g | g | g <;> (rw [g] at hs; simp at hs; omega)
  split at h
  · rename_i g
    rw [g] at hs
    simp at hs
    omega
  · exact absurd rfl h
theorem zT_text (t : S33) (h : zT t = true) : (txT t).size = 2 := by
  simp only [zT, Bool.and_eq_true, decide_eq_true_eq] at h
  obtain ⟨h0, h1, h2⟩ := h
  have e2 : t.f2 = [] := List.length_eq_zero_iff.1 h2
  have hj := joinL_length ([] : List ByteArray) (⟨#[62]⟩ : ByteArray)
  have a1 : (⟨#[40]⟩ : ByteArray).size = 1 := rfl
  have a2 : (⟨#[41]⟩ : ByteArray).size = 1 := rfl
  have a3 : szs [] = 0 := rfl
  rw [a3, List.length_nil] at hj
  rw [txT_eq, e2]
  unfold bodyT
  rw [if_neg (by omega), if_neg (by omega), if_neg (by omega), if_neg (by omega), ByteArray.size_append, ByteArray.size_append, List.map_nil, joinB_size]
  omega
structure FactsTe (x : S36) : Prop where
  sub : ∀ y ∈ x.f5, formTe y = true
  kind : x.f0 = 1 ∨ x.f0 = 2 ∨ x.f0 = 3 ∨ x.f0 = 4 ∨ x.f0 = 5 ∨ x.f0 = 6 ∨ x.f0 = 7 ∨ x.f0 = 8 ∨ x.f0 = 9 ∨ x.f0 = 10 ∨ x.f0 = 11 ∨ x.f0 = 12 ∨ x.f0 = 13 ∨ x.f0 = 14 ∨ x.f0 = 15 ∨ x.f0 = 16
  many : manyL x.f0 ≤ x.f5.length
  k4 : x.f0 = 4 → x.f5.length = 1 ∨ x.f5.length = 2
  k5 : x.f0 = 5 → x.f5.length = x.f4.length ∧ labB x.f4 = true
  two : x.f0 = 9 ∨ x.f0 = 10 ∨ x.f0 = 14 → x.f5.length = 2
  three : x.f0 = 11 → x.f5.length = 3
  one : x.f0 = 6 ∨ x.f0 = 8 ∨ x.f0 = 13 ∨ x.f0 = 15 ∨ x.f0 = 16 → x.f5.length = 1
  num : 0 ≤ x.f2 ∧ x.f2 ≤ 999
  bool : x.f0 = 3 → x.f2 = 0 ∨ x.f2 = 1
  ty : x.f0 = 7 ∨ x.f0 = 13 → formT x.f3 = true
  name : x.f1.size ≤ 4
  tysz : (txT x.f3).size ≤ 8 * ndType x.f3 + 2
theorem factsTe (x : S36) (h : formTe x = true) : FactsTe x := by
  rw [formTe_eq, Bool.and_eq_true, formTeS_all, List.all_eq_true] at h
  obtain ⟨h1, h2⟩ := h
  unfold nodeB fldB at h2
  simp only [Bool.and_eq_true, decide_eq_true_eq] at h2
  obtain ⟨⟨ha, hb, hc, hd, he⟩, hl⟩ := h2
  have h4 : x.f0 = 4 → arO x.f1 ≠ 0 := fun e => by rw [if_pos e] at ha; exact of_decide_eq_true ha
  obtain ⟨f1, f2, f3, f4, f5, f6, f7⟩ := ary_facts x.f0 (arO x.f1) _ _ (arO_three _) h4 hl
  have vf : vT x.f3 = true → formT x.f3 = true := fun h => by
    simp only [vT, Bool.and_eq_true] at h
    exact h.2.2
  refine ⟨h1, f1, f2, f3, fun e => ⟨by have := f4 e; omega, by rw [if_pos e] at hd; exact hd⟩, f5, f6, f7, ?_, ?_, ?_, ?_, ?_⟩
  · obtain ⟨g1, g2⟩ := he
    refine ⟨g1, ?_⟩
    split at g2
    · exact g2
    · split at g2 <;> omega
  · intro e
    rw [if_neg (by omega), if_pos e] at he
    omega
  · intro e
    have : typd x.f0 = true := by unfold typd; exact decide_eq_true e
    rw [this] at hb
    exact vf (by simpa using hb)
  · by_cases e : x.f0 = 4
    · exact arO_size _ (h4 e)
    · rw [if_neg e, Bool.and_eq_true] at ha
      obtain ⟨g1, g2⟩ := ha
      by_cases hi : isName x.f1 = true
      · exact isName_size _ hi
      · have : nmd x.f0 = false := by
          rw [Bool.eq_false_iff.2 hi] at g1
          simpa using g1
        rw [this, Bool.false_or] at g2
        have hs : x.f1.toList.length = x.f1.size := by rw [Lib.toList_data]; exact Array.length_toList
        rw [of_decide_eq_true g2] at hs
        simp at hs
        omega
  · by_cases hv : vT x.f3 = true
    · have := txT_size x.f3 (vf hv)
      omega
    · rw [Bool.or_eq_true] at hc
      rcases hc with hc | hc
      · rw [hc] at hb
        exact absurd (by simpa using hb) hv
      · have := zT_text x.f3 hc
        omega
theorem gt3 (ts : List (List UInt8)) : (gt ts 0).length + (gt ts 1).length + (gt ts 2).length ≤ (ts.map List.length).sum := by
  rcases ts with _ | ⟨a, _ | ⟨b, _ | ⟨c, r⟩⟩⟩ <;> simp [gt] <;> omega
theorem rec_len : ∀ (ls : List ByteArray) (ts : List (List UInt8)) (m : List UInt8), m.length ≤ 1 → (∀ y ∈ ls, y.size ≤ 4) → (recL m ls ts).length ≤ (ts.map List.length).sum + 6 * ls.length
  | [], _, _, _, _ => by simp [recL]
  | _ :: _, [], _, _, _ => by simp [recL]
  | s :: ls, t :: ts, m, hm, h => by
    have h1 := h s List.mem_cons_self
    have h2 := rec_len ls ts [44] (by simp) (fun y hy => h y (List.mem_cons_of_mem _ hy))
    have e : (bb s).length = s.size := data_length s
    simp only [recL, List.length_append, List.map_cons, List.sum_cons, List.length_cons, List.length_nil, e]
    omega
theorem len_ite {c : Prop} [Decidable c] {a b : List UInt8} {n : Nat} (h1 : c → a.length ≤ n) (h2 : ¬ c → b.length ≤ n) : (if c then a else b).length ≤ n := by
  by_cases h : c
  · rw [if_pos h]; exact h1 h
  · rw [if_neg h]; exact h2 h
theorem body_len (k : Int) (nm : ByteArray) (n : Int) (t : S33) (ls : List ByteArray) (ts : List (List UInt8)) (hl : k = 5 → ls.length ≤ 4 ∧ ∀ y ∈ ls, y.size ≤ 4) : (bodyL k nm n t ls ts).length ≤ nm.size + (itB n).size + (txT t).size + 25 + (ts.map List.length).sum := by
  have g := gt3 ts
  have e1 : (bb nm).length = nm.size := data_length nm
  have e2 : (bb (itB n)).length = (itB n).size := data_length _
  have e3 : (bb (txT t)).length = (txT t).size := data_length _
  have e4 : (bb (boolB n)).length = 2 := by unfold boolB bb; split <;> rfl
  by_cases h5 : k = 5
  · have := rec_len ls ts [123] (by simp) (hl h5).2
    have := (hl h5).1
    simp only [bodyL, h5]
    simp
    omega
  unfold bodyL
  repeat' (with_reducible refine len_ite (fun _ => ?_) (fun _ => ?_))
  all_goals first
    | omega
    | (simp only [List.length_append, List.length_cons, List.length_nil, e1, e2, e3]; omega)
theorem sum_len (xs : List S36) (h : ∀ y ∈ xs, (txL y).length ≤ 8388700 * ndTerm y) : ((xs.map txL).map List.length).sum ≤ 8388700 * (xs.map ndTerm).sum := by
  induction xs with
  | nil => simp
  | cons x r ih =>
    have h1 := h x List.mem_cons_self
    have h2 := ih (fun y hy => h y (List.mem_cons_of_mem _ hy))
    simp only [List.map_cons, List.sum_cons]
    omega
theorem labB_len (l : List ByteArray) (h : labB l = true) : l.length ≤ 4 := by
  simp only [labB, Bool.and_eq_true, decide_eq_true_eq] at h
  omega
theorem txL_size : ∀ x : S36, tyTe x ≤ 1048577 → formTe x = true → (txL x).length ≤ 8388700 * ndTerm x := by
  refine indTermI fun x ih ht hf => ?_
  have F := factsTe x hf
  rw [tyTe_eq] at ht
  have ht2 := (tyTeS_le x.f5 1048577).1 (by omega)
  have hs := sum_len x.f5 (fun y hy => ih y hy (ht2 y hy) (F.sub y hy))
  have hb := body_len x.f0 x.f1 x.f2 x.f3 x.f4 (x.f5.map txL) (fun e => ⟨labB_len _ (F.k5 e).2, labB_size _ (F.k5 e).2⟩)
  have h1 := itB_size x.f2 (by have := F.num; omega) (by have := F.num; omega)
  have h2 := F.name
  have h3 := F.tysz
  rw [txL_eq, ndTerm_eq]
  omega
theorem goodE_of : ∀ x : S36, SmTerm x → tyTe x ≤ 1048577 → formTe x = true → GoodE x := by
  refine indTermI fun x ih hs ht hf => ?_
  have F := factsTe x hf
  rw [tyTe_eq] at ht
  have ht2 := (tyTeS_le x.f5 1048577).1 (by omega)
  refine GoodE.mk F.kind F.many F.k4 (fun e => ⟨(F.k5 e).1, hs.p4.1⟩) (fun _ => impl_FormatInt_eq x.f2 (by have := F.num; omega) (by have := F.num; omega)) (fun e => ?_) hs.p1 (by have := F.tysz; omega) (fun y hy => ih y hy (hs.p5.2 y hy) (ht2 y hy) (F.sub y hy))
  obtain ⟨K, hK⟩ := impl_typeText_ev x.f3 hs.p3 (by omega) (F.ty e)
  exact ⟨K, hK K (Nat.le_refl _)⟩
/-- The texts of a node's parts, as_ the reference gathers them. -/
def labE (a t : ByteArray) : ByteArray := (a ++ (⟨#[61]⟩ : ByteArray)) ++ t
def partsE (x : S36) : List ByteArray := if x.f0 = 5 then List.zipWith labE x.f4 (x.f5.map txX) else x.f5.map txX
theorem partsE_length (x : S36) (hf : formTe x = true) : (partsE x).length = x.f5.length := by
  unfold partsE
  split
  · rename_i h
    have := ((factsTe x hf).k5 h).1
    simp
    omega
  · simp
theorem partsE_getD (x : S36) (hf : formTe x = true) (i : Nat) (hi : i < x.f5.length) : (partsE x).getD i ByteArray.empty = if x.f0 = 5 then labE (x.f4.getD i ByteArray.empty) (txX (x.f5.getD i z36)) else txX (x.f5.getD i z36) := by
  unfold partsE
  split
  · rename_i h
    have := ((factsTe x hf).k5 h).1
    have hl : i < x.f4.length := by omega
    have e1 : (List.zipWith labE x.f4 (x.f5.map txX))[i]? = some (labE x.f4[i] (txX x.f5[i])) := by
      rw [List.getElem?_eq_getElem (by simp; omega)]
      simp
    rw [List.getD_eq_getElem?_getD, e1]
    simp [List.getD_eq_getElem?_getD, hi, hl]
  · simp [List.getD_eq_getElem?_getD, hi]
theorem szs_mapE (xs : List S36) (h : ∀ y ∈ xs, (txL y).length ≤ 8388700 * ndTerm y) : szs (xs.map txX) ≤ 8388700 * (xs.map ndTerm).sum := by
  induction xs with
  | nil => simp [szs]
  | cons x r ih =>
    have h1 := h x List.mem_cons_self
    have h2 := ih (fun y hy => h y (List.mem_cons_of_mem _ hy))
    simp only [List.map_cons, List.sum_cons]
    rw [szs_cons, txX_size]
    omega
theorem szs_zipE : ∀ (l ts : List ByteArray), (∀ y ∈ l, y.size ≤ 4) → szs (List.zipWith labE l ts) ≤ 5 * ts.length + szs ts
  | [], ts, _ => by simp [szs]
  | a :: l, [], _ => by simp [szs]
  | a :: l, t :: ts, h => by
    have h1 := h a List.mem_cons_self
    have h2 := szs_zipE l ts (fun y hy => h y (List.mem_cons_of_mem _ hy))
    rw [List.zipWith_cons_cons, szs_cons, szs_cons, List.length_cons]
    have a1 : (⟨#[61]⟩ : ByteArray).size = 1 := rfl
    have : (labE a t).size = a.size + 1 + t.size := by rw [labE, ByteArray.size_append, ByteArray.size_append, a1]
    omega
theorem partsE_small (x : S36) (ht : tyTe x ≤ 1048577) (hn : ndTerm x ≤ 1048577) (hf : formTe x = true) : szs (partsE x) + (partsE x).length ≤ 9000000000000 := by
  have F := factsTe x hf
  rw [tyTe_eq] at ht
  have ht2 := (tyTeS_le x.f5 1048577).1 (by omega)
  have hs := szs_mapE x.f5 (fun y hy => txL_size y (ht2 y hy) (F.sub y hy))
  rw [partsE_length x hf]
  rw [ndTerm_eq] at hn
  have hl : x.f5.length ≤ (x.f5.map ndTerm).sum := by
    clear ht hs hn F hf ht2
    induction x.f5 with
    | nil => simp
    | cons y r ih => rw [List.map_cons, List.sum_cons, List.length_cons, ndTerm_eq y]; omega
  unfold partsE
  split
  · rename_i e
    have hz := szs_zipE x.f4 (x.f5.map txX) (labB_size _ (F.k5 e).2)
    rw [List.length_map] at hz
    omega
  · omega
theorem join_rec : ∀ (ls : List ByteArray) (xs : List S36), Lib.joinTail [44] ((List.zipWith labE ls (xs.map txX)).map (·.data.toList)) = recL [44] ls (xs.map txL)
  | [], xs => by simp [Lib.joinTail, recL]
  | s :: ls, [] => by simp [Lib.joinTail, recL]
  | s :: ls, x :: xs => by
    have h := join_rec ls xs
    simp only [Lib.joinTail] at h
    simp only [List.map_cons, List.zipWith_cons_cons, Lib.joinTail, List.flatten_cons, recL]
    rw [h]
    simp [labE, bb, txX_data, List.append_assoc]
theorem rec_text (ls : List ByteArray) (xs : List S36) (h : 1 ≤ ls.length) (h2 : xs.length = ls.length) : ([123] ++ joinL (List.zipWith labE ls (xs.map txX)) (⟨#[44]⟩ : ByteArray)) ++ [125] = recL [123] ls (xs.map txL) ++ [125] := by
  obtain _ | ⟨s, ls⟩ := ls
  · simp at h
  obtain _ | ⟨x, xs⟩ := xs
  · simp at h2
  have e := join_rec ls xs
  simp only [joinL, List.map_cons, List.zipWith_cons_cons, Lib.join_cons, recL]
  rw [e]
  simp [labE, bb, txX_data, List.append_assoc]
theorem two_joinE (a b s : ByteArray) : (joinB [a, b] s).data.toList = a.data.toList ++ s.data.toList ++ b.data.toList := by
  simp [joinB, joinL, Lib.join_cons, Lib.joinTail]
theorem three_joinE (a b c s : ByteArray) : (joinB [a, b, c] s).data.toList = a.data.toList ++ s.data.toList ++ b.data.toList ++ s.data.toList ++ c.data.toList := by
  simp [joinB, joinL, Lib.join_cons, Lib.joinTail]
theorem len3 {α : Type} (l : List α) (h : l.length = 3) : ∃ a b c, l = [a, b, c] := by
  match l, h with
  | [a, b, c], _ => exact ⟨a, b, c, rfl⟩
theorem spec_l8Long_ev (x : S36) (hs : SmTerm x) (ht : tyTe x ≤ 1048577) (hn : ndTerm x ≤ 1048577) (hf : formTe x = true) (hk : x.f0 = 9 ∨ x.f0 = 10 ∨ x.f0 = 11 ∨ x.f0 = 13 ∨ x.f0 = 14 ∨ x.f0 = 15 ∨ x.f0 = 16) : Ev (fun k => spec_l8Long.f k x.f0 x.f1 x.f2 x.f3.f0 x.f3.f1 x.f3.f2 x.f4 x.f5 (partsE x)) (txX x) := by
  have F := factsTe x hf
  have hp : partsE x = x.f5.map txX := by unfold partsE; rw [if_neg (by omega)]
  have hps := partsE_small x ht hn hf
  have hnm := F.name
  have htz := F.tysz
  rw [tyTe_eq] at ht
  have hc : (⟨#[32]⟩ : ByteArray).size = 1 := rfl
  have hj := joinL_length (partsE x) (⟨#[32]⟩ : ByteArray)
  rw [hc, ← joinB_size] at hj
  have two := F.two
  have three := F.three
  have one := F.one
  have hlen : (partsE x).length = x.f5.length := partsE_length x hf
  have sz : ∀ i : Nat, i < x.f5.length → (rdOf ByteArray.empty (partsE x) (i : Int)).size ≤ 9000000000000 := fun i hi => by
    rw [rdOf_str]
    have := sum_le_of_mem ByteArray.size (mem_getD (partsE x) ByteArray.empty i (by omega))
    unfold szs at hps
    omega
  simp only [spec_l8Long.f]
  refine Ev.cases (fun e => ?_) (fun e9 => ?_)
  · have h2 := two (by omega)
    have s0 := sz 0 (by omega)
    have s1 := sz 1 (by omega)
    obtain ⟨a, b, h5⟩ := len2 x.f5 h2
    simp only [Int.cast_ofNat_Int] at s0 s1
    repeat refine Ev.pos (by omega) ?_
    refine Ev.const (txX_of x _ ?_)
    rw [hp, h5]
    simp [bodyL, e, gt, rdOf, txX_data]
  refine Ev.cases (fun e => ?_) (fun e10 => ?_)
  · have h2 := two (by omega)
    have s0 := sz 0 (by omega)
    have s1 := sz 1 (by omega)
    obtain ⟨a, b, h5⟩ := len2 x.f5 h2
    simp only [Int.cast_ofNat_Int] at s0 s1
    repeat refine Ev.pos (by omega) ?_
    refine Ev.const (txX_of x _ ?_)
    rw [hp, h5]
    simp [bodyL, e, gt, bb, rdOf, txX_data]
  refine Ev.cases (fun e => ?_) (fun e11 => ?_)
  · have h3 := three e
    obtain ⟨a, b, c, h5⟩ := len3 x.f5 h3
    refine Ev.bind (spec_Join_ev (partsE x) (⟨#[32]⟩ : ByteArray) (by omega) (by rw [hc]; omega)) ?_
    repeat refine Ev.pos (by omega) ?_
    refine Ev.const (txX_of x _ ?_)
    rw [hp, h5]
    simp [bodyL, e, gt, three_joinE, txX_data]
  refine Ev.cases (fun e => ?_) (fun e13 => ?_)
  · have h2 := one (by omega)
    have s0 := sz 0 (by omega)
    obtain ⟨a, h5⟩ := List.length_eq_one_iff.1 h2
    simp only [Int.cast_ofNat_Int] at s0
    repeat refine Ev.pos (by omega) ?_
    refine Ev.bind (spec_l4Text_ev x.f3 hs.p3 (by omega) (F.ty (Or.inr e))) ?_
    repeat refine Ev.pos (by omega) ?_
    refine Ev.const (txX_of x _ ?_)
    rw [hp, h5]
    simp [bodyL, e, gt, bb, rdOf, txX_data]
  refine Ev.cases (fun e => ?_) (fun e14 => ?_)
  · have h2 := two (by omega)
    obtain ⟨a, b, h5⟩ := len2 x.f5 h2
    refine Ev.bind (spec_Join_ev (partsE x) (⟨#[32]⟩ : ByteArray) (by omega) (by rw [hc]; omega)) ?_
    repeat refine Ev.pos (by omega) ?_
    refine Ev.const (txX_of x _ ?_)
    rw [hp, h5]
    simp [bodyL, e, gt, two_joinE, txX_data]
  have h2 := one (by omega)
  have s0 := sz 0 (by omega)
  obtain ⟨a, h5⟩ := List.length_eq_one_iff.1 h2
  simp only [Int.cast_ofNat_Int] at s0
  refine Ev.cases (fun e => ?_) (fun e15 => ?_)
  · repeat refine Ev.pos (by omega) ?_
    refine Ev.const (txX_of x _ ?_)
    rw [hp, h5]
    simp [bodyL, e, gt, rdOf, txX_data]
  · have e : x.f0 = 16 := by omega
    repeat refine Ev.pos (by omega) ?_
    refine Ev.const (txX_of x _ ?_)
    rw [hp, h5]
    simp [bodyL, e, gt, rdOf, txX_data]
theorem tf_textE (n : Int) (h : n = 0 ∨ n = 1) : (if 0 ≤ n then (if n ≤ (wrap64 (n + 1)) then (if (wrap64 (n + 1)) ≤ 2 then (if 1 + ((⟨#[102, 116]⟩ : ByteArray).extract (n : Int).toNat ((wrap64 (n + 1)) : Int).toNat).size ≤ 9223372036854775807 then (some ((⟨#[35]⟩ : ByteArray) ++ ((⟨#[102, 116]⟩ : ByteArray).extract (n : Int).toNat ((wrap64 (n + 1)) : Int).toNat))) else (none)) else (none)) else (none)) else (none)) = some (boolB n) := by
  rcases h with rfl | rfl <;> kernel_rfl
theorem spec_l8Text_ev : ∀ x : S36, SmTerm x → tyTe x ≤ 1048577 → ndTerm x ≤ 1048577 → formTe x = true → Ev (fun k => spec_l8Text.f k x.f0 x.f1 x.f2 x.f3.f0 x.f3.f1 x.f3.f2 x.f4 x.f5) (txX x) := by
  refine indTermI fun x ih hs ht hn hf => ?_
  have F := factsTe x hf
  have hpl := partsE_length x hf
  have hps := partsE_small x ht hn hf
  have hlong := spec_l8Long_ev x hs ht hn hf
  have hlen := hs.p5.1
  have hnm := F.name
  have htz := F.tysz
  rw [tyTe_eq] at ht
  have ht2 := (tyTeS_le x.f5 1048577).1 (by omega)
  rw [ndTerm_eq] at hn
  refine Ev.up ?_
  simp only [spec_l8Text.f]
  suffices h : ∀ m i, i + m = x.f5.length → Ev (fun k => spec_l8Text.l0 k ((partsE x).take i) (i : Int) x.f0 x.f1 x.f2 x.f3.f0 x.f3.f1 x.f3.f2 x.f4 x.f5) (txX x) from by simpa using h x.f5.length 0 (by omega)
  intro m
  induction m with
  | zero =>
    intro i hi
    have sz : ∀ i : Nat, i < x.f5.length → (rdOf ByteArray.empty (partsE x) (i : Int)).size ≤ 9000000000000 := fun i hi => by
      rw [rdOf_str]
      have := sum_le_of_mem ByteArray.size (mem_getD (partsE x) ByteArray.empty i (by omega))
      unfold szs at hps
      omega
    refine Ev.up ?_
    simp only [spec_l8Text.l0]
    refine Ev.neg (by omega) ?_
    rw [List.take_of_length_le (by omega)]
    refine Ev.cases (fun e => Ev.const (txX_of x _ (by simp [bodyL, e, bb]))) (fun e1 => ?_)
    refine Ev.cases (fun e => ?_) (fun e2 => ?_)
    · exact Ev.bind (spec_FormatInt_ev x.f2 (by have := F.num; omega) (by have := F.num; omega)) (Ev.const (txX_of x _ (by simp [bodyL, e, bb])))
    refine Ev.cases (fun e => ?_) (fun e3 => ?_)
    · rw [tf_textE x.f2 (F.bool e)]
      exact Ev.const (txX_of x _ (by simp [bodyL, e, bb]))
    refine Ev.cases (fun e => ?_) (fun e12 => ?_)
    · repeat refine Ev.pos (by omega) ?_
      exact Ev.const (txX_of x _ (by simp [bodyL, e, bb]))
    refine Ev.cases (fun e => ?_) (fun e4 => ?_)
    · have hp : partsE x = x.f5.map txX := by unfold partsE; rw [if_neg (by omega)]
      have s0 := sz 0 (by have := F.k4 e; omega)
      simp only [Int.cast_ofNat_Int] at s0
      refine Ev.cases (fun h1 => ?_) (fun h1 => ?_)
      · obtain ⟨a, h5⟩ := List.length_eq_one_iff.1 (show x.f5.length = 1 by omega)
        repeat refine Ev.pos (by omega) ?_
        refine Ev.const (txX_of x _ ?_)
        rw [hp, h5]
        simp [bodyL, e, gt, rdOf, txX_data]
      · have h2 : x.f5.length = 2 := by have := F.k4 e; omega
        have s1 := sz 1 (by omega)
        simp only [Int.cast_ofNat_Int] at s1
        obtain ⟨a, b, h5⟩ := len2 x.f5 h2
        repeat refine Ev.pos (by omega) ?_
        refine Ev.const (txX_of x _ ?_)
        rw [hp, h5]
        simp [bodyL, e, gt, bb, rdOf, txX_data]
    refine Ev.cases (fun e => ?_) (fun e5 => ?_)
    · have hc : (⟨#[44]⟩ : ByteArray).size = 1 := rfl
      have hj := joinL_length (partsE x) (⟨#[44]⟩ : ByteArray)
      rw [hc, ← joinB_size] at hj
      obtain ⟨g1, g2⟩ := F.k5 e
      have hp : partsE x = List.zipWith labE x.f4 (x.f5.map txX) := by unfold partsE; rw [if_pos e]
      have hl1 : 1 ≤ x.f4.length := by
        simp only [labB, Bool.and_eq_true, decide_eq_true_eq] at g2
        omega
      refine Ev.bind (spec_Join_ev (partsE x) (⟨#[44]⟩ : ByteArray) (by omega) (by rw [hc]; omega)) ?_
      repeat refine Ev.pos (by omega) ?_
      refine Ev.const (txX_of x _ ?_)
      have r := rec_text x.f4 x.f5 hl1 g1
      rw [hp]
      simp only [bodyL, e]
      simpa [joinB] using r
    refine Ev.cases (fun e => ?_) (fun e6 => ?_)
    · have hp : partsE x = x.f5.map txX := by unfold partsE; rw [if_neg (by omega)]
      have h1 := F.one (by omega)
      have s0 := sz 0 (by omega)
      simp only [Int.cast_ofNat_Int] at s0
      obtain ⟨a, h5⟩ := List.length_eq_one_iff.1 h1
      repeat refine Ev.pos (by omega) ?_
      refine Ev.const (txX_of x _ ?_)
      rw [hp, h5]
      simp [bodyL, e, gt, bb, rdOf, txX_data]
    refine Ev.cases (fun e => ?_) (fun e7 => ?_)
    · refine Ev.bind (spec_l4Text_ev x.f3 hs.p3 (by omega) (F.ty (Or.inl e))) ?_
      repeat refine Ev.pos (by omega) ?_
      exact Ev.const (txX_of x _ (by simp [bodyL, e, bb]))
    refine Ev.cases (fun e => ?_) (fun e8 => ?_)
    · have hp : partsE x = x.f5.map txX := by unfold partsE; rw [if_neg (by omega)]
      have h1 := F.one (by omega)
      have s0 := sz 0 (by omega)
      simp only [Int.cast_ofNat_Int] at s0
      obtain ⟨a, h5⟩ := List.length_eq_one_iff.1 h1
      repeat refine Ev.pos (by omega) ?_
      refine Ev.const (txX_of x _ ?_)
      rw [hp, h5]
      simp [bodyL, e, gt, rdOf, txX_data]
    exact Ev.bind (hlong (by have := F.kind; omega)) (Ev.now _)
  | succ m ihm =>
    intro i hi
    have hlt : i < x.f5.length := by omega
    have hm := mem_getD x.f5 z36 i hlt
    have hsub := ih _ hm (hs.p5.2 _ hm) (ht2 _ hm) (by have := sum_le_of_mem ndTerm hm; omega) (F.sub _ hm)
    have hsz := txL_size _ (ht2 _ hm) (F.sub _ hm)
    rw [← txX_size] at hsz
    have hnd := sum_le_of_mem ndTerm hm
    have hg := partsE_getD x hf i hlt
    have hta := take_getD (partsE x) i (by omega)
    have ihm' := ihm (i + 1) (by omega)
    rw [hta, hg] at ihm'
    have hti : ((partsE x).take i).length < 8796093022208 := by rw [List.length_take]; omega
    refine Ev.up ?_
    simp only [spec_l8Text.l0, w1' hlt hlen]
    refine Ev.pos (by omega) (Ev.pos (by omega) (Ev.bind hsub ?_))
    refine Ev.cases (fun e5 => ?_) (fun e5 => ?_)
    · rw [if_pos e5] at ihm'
      have hl := (F.k5 e5).1
      have hls := labB_size _ (F.k5 e5).2 _ (mem_getD x.f4 ByteArray.empty i (by omega))
      rw [rdOf_str]
      exact Ev.pos (by omega) (Ev.pos (by omega) (Ev.pos (by omega) (Ev.pos hti ihm')))
    · rw [if_neg e5] at ihm'
      exact Ev.pos hti ihm'
theorem impl_termText_eq (x : S36) (hs : SmTerm x) (ht : tyTe x ≤ 1048577) (hn : ndTerm x ≤ 1048577) (hf : formTe x = true) : impl_termText.f x.f0 x.f1 x.f2 x.f3.f0 x.f3.f1 x.f3.f2 x.f4 x.f5 = some (txX x) := by
  have hsz := txL_size x ht hf
  obtain ⟨K, hK⟩ := impl_termForm_ev x hs ht
  rw [hf] at hK
  unfold impl_termText.f
  rw [etaTerm, if_pos ⟨goodE_of x hs ht hf, by omega, K, hK K (Nat.le_refl _)⟩]
  rfl
theorem IsValidTerm_both (x : S36) (hs : SmTerm x) (hn : ndTerm x ≤ 1048577) (ht : tyTe x ≤ 1048577) : ∃ v : Bool, Ev (fun k => spec_IsValidTerm.f k x.f0 x.f1 x.f2 x.f3.f0 x.f3.f1 x.f3.f2 x.f4 x.f5) v ∧ Ev (fun k => impl_IsValidTerm.f k x.f0 x.f1 x.f2 x.f3.f0 x.f3.f1 x.f3.f2 x.f4 x.f5) v ∧ (v = true → formTe x = true) := by
  obtain ⟨r, h1, h2, h3, _⟩ := spec_l7Left_ev x hs 60 (by decide) (by decide)
  obtain ⟨d, d1, d2⟩ := DepthOfTerm_same_ x hs
  simp only [spec_IsValidTerm.f, impl_IsValidTerm.f]
  by_cases hc : ndTerm x ≤ 60
  · have := h2 (by omega)
    by_cases hd : d ≤ 16
    · exact ⟨formTe x, Ev.bind h1 (Ev.pos (by omega) (Ev.bind d1 (Ev.pos hd (Ev.bind (spec_l7Form_ev x hs ht) (Ev.now _))))), Ev.bind (impl_sizeOf_ev x hs hn) (Ev.pos (by omega) (Ev.bind d2 (Ev.pos hd (Ev.bind (impl_termForm_ev x hs ht) (Ev.now _))))), id⟩
    · exact ⟨false, Ev.bind h1 (Ev.pos (by omega) (Ev.bind d1 (Ev.neg hd (Ev.now _)))), Ev.bind (impl_sizeOf_ev x hs hn) (Ev.pos (by omega) (Ev.bind d2 (Ev.neg hd (Ev.now _)))), fun h => by cases h⟩
  · have := h3 (by omega)
    exact ⟨false, Ev.bind h1 (Ev.neg (by omega) (Ev.now _)), Ev.bind (impl_sizeOf_ev x hs hn) (Ev.neg (by omega) (Ev.now _)), fun h => by cases h⟩
theorem FormatTerm_same (x : S36) (hs : SmTerm x) (hn : ndTerm x ≤ 1048577) (ht : tyTe x ≤ 1048577) : Same (fun k => spec_FormatTerm.f k x.f0 x.f1 x.f2 x.f3.f0 x.f3.f1 x.f3.f2 x.f4 x.f5) (fun k => impl_FormatTerm.f k x.f0 x.f1 x.f2 x.f3.f0 x.f3.f1 x.f3.f2 x.f4 x.f5) := by
  obtain ⟨v, v1, v2, v3⟩ := IsValidTerm_both x hs hn ht
  simp only [spec_FormatTerm.f, impl_FormatTerm.f]
  refine Same.bindL v1 (Same.bindR v2 (Same.ite Iff.rfl (fun h => ?_) (fun _ => Same.ret rfl)))
  have hf := v3 h
  exact ⟨txX x, Ev.bind (spec_l8Text_ev x hs ht hn hf) (Ev.now _), Ev.fix (impl_termText_eq x hs ht hn hf) (Ev.now _)⟩

end Go.Proofs.YtgplgphchdgedaaDoor.Px
end
section
namespace Go.Proofs.YtgplgphchdgedaaDoor.Pure
open Go.RowKit Go.Proofs.YtgplgphchdgedaaDoor.Px Go.Proofs.YtgplgphchdgedaaDoorW.PrintWords Go.Proofs.YtgplgphchdgedaaDoorW.PrintLast Go.Proofs.YtgplgphchdgedaaDoor.Pl
set_option linter.unusedVariables false
set_option linter.unusedSimpArgs false
theorem FnExactFormatTerm_all (x0 : S28) (hW0 : W28 x0) : Ev (fun k => laws_FnExactFormatTerm.f k x0.f0 x0.f1 x0.f2 x0.f3.f0 x0.f3.f1 x0.f3.f2 x0.f4 x0.f5) true := by
  simp only [laws_FnExactFormatTerm.f]
  have hb0 : (0 : Int) ≤ (1048576 : Int) ∧ (1048576 : Int) ≤ 1048576 := ⟨by omega, by omega⟩
  refine Ev.bind (szTerm_ev x0 hW0 _ hb0.1 hb0.2) ?_
  by_cases hc0 : cut (wtTerm x0) (1048576 : Int) < 0
  · exact Ev.pos hc0 (Ev.now _)
  refine Ev.neg hc0 ?_
  have hw0 : (wtTerm x0 : Nat) ≤ 1048576 := by
    have := (not_congr (cut_neg (n := wtTerm x0))).1 hc0
    have h2 := hb0
    omega
  obtain ⟨r, h1, h2⟩ := FormatTerm_same (cvTerm x0) (smTerm_of x0 hW0 hw0) (by have := ndTerm_cv x0; omega) (by have := tyTe_cv x0; omega)
  refine Ev.bind (toTerm_ev x0 hw0) ?_
  first | refine Ev.bind h1 ?_ | (obtain ⟨k1_, h1_⟩ := h1.rounds; refine Ev.fix h1_ ?_)
  refine Ev.bind (toTerm_ev x0 hw0) ?_
  first | refine Ev.bind h2 ?_ | (obtain ⟨k2_, h2_⟩ := h2.rounds; refine Ev.fix h2_ ?_)
  first | refine Ev.pos rfl ?_ | refine Ev.neg (by simp) ?_ | refine Ev.pos (by simp) ?_
  refine Ev.bind (toTerm_ev x0 hw0) ?_
  refine Ev.bind (eqTerm_ev _ (smTerm_of x0 hW0 hw0)) ?_
  refine Ev.pos rfl ?_
  exact Ev.now _
theorem FnExactFormatTerm : laws_FnExactFormatTerm.Pure := by
  intro v0_0 v0_1 v0_2 v0_3 v0_4 v0_5 v0_6 v0_7 h0
  exact (FnExactFormatTerm_all ⟨v0_0, v0_1, v0_2, ⟨v0_3, v0_4, v0_5⟩, v0_6, v0_7⟩ h0).rounds
end Go.Proofs.YtgplgphchdgedaaDoor.Pure
end
section
namespace Go.Proofs.YtgplgphchdgedaaDoor.Rd
open Go.RowKit Go.Proofs.YtgplgphchdgedaaDoorW.PrintWords
set_option linter.unusedVariables false
/-- What reads as_ data of type t, by at most n steps, is of kind d and meets q. -/
def Op (P : Program) (n : Nat) (t : TypeId) {α : Type} (d : Kd α) (q : α → Prop) : Prop :=
  ∀ (H : Type) (enc : TypeId × Value → H) (w : World) (base : Nat) (spare : Nat → Bool) (held : Bool) (fuel : Nat) (cs : List Value) (x : DataW H × List MemPlace),
    fuel ≤ n → DataW.trod enc P w base spare held fuel t cs = some x → ∃ y, d.K w y cs ∧ q y
theorem Op.imp {P : Program} {n : Nat} {t : TypeId} {α : Type} {d d' : Kd α} {q q' : α → Prop} (h1 : ∀ w y cs, d.K w y cs → d'.K w y cs) (h2 : ∀ y, q y → q' y) (h : Op P n t d q) : Op P n t d' q' := by
  intro H enc w base spare held fuel cs x hf hx
  obtain ⟨y, hy, hq⟩ := h H enc w base spare held fuel cs x hf hx
  exact ⟨y, h1 _ _ _ hy, h2 _ hq⟩
theorem Op.iso {P : Program} {n : Nat} {t : TypeId} {α β : Type} {d : Kd α} {q : α → Prop} {f : β → α} (g : α → β) (hg : ∀ y, f (g y) = y) (h : Op P n t d q) : Op P n t (Kd.iso d f) (fun x => q (f x)) := by
  intro H enc w base spare held fuel cs x hf hx
  obtain ⟨y, hy, hq⟩ := h H enc w base spare held fuel cs x hf hx
  refine ⟨g y, ?_, ?_⟩
  · show d.K w (f (g y)) cs
    rw [hg]; exact hy
  · show q (f (g y))
    rw [hg]; exact hq
theorem Op.int {P : Program} {n : Nat} {t : TypeId} {k : IntKind} (ht : P.underlying t = some (.int k)) : Op P n t (Kd.int k) (fun x => (Lit.int k x).wf = true) := by
  intro H enc w base spare held fuel cs x hf hx
  obtain ⟨m, rfl, rfl, hw⟩ := DataW.trod_int ht hx
  exact ⟨m, rfl, hw⟩
theorem Op.bool {P : Program} {n : Nat} {t : TypeId} (ht : P.underlying t = some .bool) : Op P n t Kd.bool (fun _ => True) := by
  intro H enc w base spare held fuel cs x hf hx
  obtain ⟨m, rfl, rfl⟩ := DataW.trod_bool ht hx
  exact ⟨m, rfl, trivial⟩
theorem trod_string' {H : Type} {enc : TypeId × Value → H} {P : Program} {w : World} {base : Nat} {spare : Nat → Bool} {held : Bool} {fuel : Nat} {t : TypeId} {cs : List Value} {x : DataW H × List MemPlace}
    (ht : P.underlying t = some .string) (h : DataW.trod enc P w base spare held fuel t cs = some x) : ∃ s, cs = [.string s] ∧ s.size ≤ maxLen := by
  cases fuel with
  | zero => simp [DataW.trod] at h
  | succ n =>
    unfold DataW.trod at h
    rw [ht] at h
    split at h <;> simp_all
theorem Op.string {P : Program} {n : Nat} {t : TypeId} (ht : P.underlying t = some .string) : Op P n t Kd.string (fun s => s.size ≤ maxLen) := by
  intro H enc w base spare held fuel cs x hf hx
  obtain ⟨m, rfl, hm⟩ := trod_string' ht hx
  exact ⟨m, rfl, hm⟩
theorem add_add (a : Addr) (i j : Nat) : (a.add i).add j = a.add (i + j) := by
  unfold Addr.add
  by_cases h1 : i = 0 <;> by_cases h2 : j = 0 <;> simp [h1, h2, Nat.add_assoc]
theorem choose_list {α : Type} {p : Nat → α → Prop} (n : Nat) (h : ∀ i, i < n → ∃ y, p i y) : ∃ ys : List α, ys.length = n ∧ ∀ i y, ys[i]? = some y → p i y := by
  induction n with
  | zero => exact ⟨[], rfl, fun i y hy => by simp at hy⟩
  | succ n ih =>
    obtain ⟨ys, hl, hy⟩ := ih (fun i hi => h i (by omega))
    obtain ⟨z, hz⟩ := h n (by omega)
    refine ⟨ys ++ [z], by simp [hl], fun i y hi => ?_⟩
    by_cases hlt : i < n
    · rw [List.getElem?_append_left (by omega)] at hi
      exact hy i y hi
    · by_cases he : i = n
      · subst he
        rw [List.getElem?_append_right (by omega)] at hi
        simp [hl] at hi
        subst hi
        exact hz
      · rw [List.getElem?_eq_none (by simp; omega)] at hi
        cases hi
theorem Op.slice {P : Program} {n : Nat} {t e : TypeId} {α : Type} {d : Kd α} {q : α → Prop} (ht : P.underlying t = some (.slice e)) (hsz : P.cellsOf e = d.sz) (h : ∀ k, k < n → Op P k e d q) :
    Op P n t (Kd.slice e d) (fun xs => xs.length ≤ maxLen ∧ ∀ y ∈ xs, q y) := by
  intro H enc w base spare held fuel cs x hf hx
  rcases DataW.trod_slice ht hx with ⟨rfl, _⟩ | ⟨a, len, cap, elems, rest, m, hm, rfl, _, hb, hl, hc, hlen, hel, _, _⟩
  · exact ⟨[], ⟨none, 0, rfl, Nat.le_refl _, ⟨rfl, by simp, fun hp => absurd hp (by simp)⟩⟩, by simp, fun y hy => by simp at hy⟩
  · have hone : ∀ i, i < len → ∃ y, (∃ c, c.length = d.sz ∧ d.K w y c ∧ ∀ j u, c[j]? = some u → w.cell? (a.add (i * d.sz + j)) = some u) ∧ q y := by
      intro i hi
      have h1 := hel i hi
      rw [List.getElem?_eq_getElem (by omega)] at h1
      obtain ⟨c, hc1, hc2⟩ := Option.bind_eq_some_iff.1 h1
      obtain ⟨y, hy, hq⟩ := h m (by omega) H enc w base spare held m c _ (Nat.le_refl _) hc2
      obtain ⟨_, hcl, hcells⟩ := World.cells?_some hc1
      refine ⟨y, ⟨c, by omega, hy, fun j u hu => ?_⟩, hq⟩
      have hj : j < P.cellsOf e := by
        rw [← hcl]
        exact (List.getElem?_eq_some_iff.1 hu).1
      have := hcells j hj
      rw [add_add, hsz] at this
      rw [this, hu]
    obtain ⟨ys, hyl, hys⟩ := choose_list len hone
    have hmx : len ≤ 9223372036854775807 := by
      have : cap ≤ 9223372036854775807 := hc
      omega
    refine ⟨ys, ⟨some a, cap, by rw [hyl], by omega, ⟨rfl, by omega, fun _ => ⟨a, rfl, fun j p hj => (hys j p hj).1⟩⟩⟩, by rw [hyl]; exact hmx, fun y hy => ?_⟩
    obtain ⟨i, hi, rfl⟩ := List.getElem_of_mem hy
    exact (hys i _ (List.getElem?_eq_getElem hi)).2
/-- Fields, from an offset on. -/
def OpF (P : Program) (n : Nat) (fs : List Field) (off : Nat) {α : Type} (d : Kd α) (q : α → Prop) : Prop :=
  ∀ (H : Type) (enc : TypeId × Value → H) (w : World) (base : Nat) (spare : Nat → Bool) (held : Bool) (fuel : Nat) (cs : List Value), fuel ≤ n →
    (∀ f ∈ fs, ∃ x, DataW.trod enc P w base spare held fuel f.type ((cs.drop f.offset).take (P.cellsOf f.type)) = some x) → cs.length = off + d.sz → ∃ y, d.K w y (cs.drop off) ∧ q y
theorem OpF.one {P : Program} {n : Nat} {f : Field} {off : Nat} {α : Type} {d : Kd α} {q : α → Prop} (ho : f.offset = off) (hsz : P.cellsOf f.type = d.sz) (h : Op P n f.type d q) : OpF P n [f] off d q := by
  intro H enc w base spare held fuel cs hf hx hl
  obtain ⟨x, hx⟩ := hx f (List.mem_singleton.2 rfl)
  rw [ho, hsz, List.take_of_length_le (by rw [List.length_drop]; omega)] at hx
  exact h H enc w base spare held fuel _ x hf hx
theorem OpF.cons {P : Program} {n : Nat} {f : Field} {fs : List Field} {off : Nat} {α β : Type} {a : Kd α} {b : Kd β} {qa : α → Prop} {qb : β → Prop} (ho : f.offset = off) (hsz : P.cellsOf f.type = a.sz) (h : Op P n f.type a qa) (hr : OpF P n fs (off + a.sz) b qb) :
    OpF P n (f :: fs) off (Kd.pair a b) (fun y => qa y.1 ∧ qb y.2) := by
  intro H enc w base spare held fuel cs hf hx hl
  have hl' : cs.length = off + (a.sz + b.sz) := hl
  obtain ⟨x, h1⟩ := hx f (List.mem_cons_self ..)
  rw [ho, hsz] at h1
  obtain ⟨y, hy, hq⟩ := h H enc w base spare held fuel _ x hf h1
  obtain ⟨z, hz, hq2⟩ := hr H enc w base spare held fuel cs hf (fun g hg => hx g (List.mem_cons_of_mem _ hg)) (by omega)
  refine ⟨(y, z), ⟨_, _, ?_, hy, hz⟩, hq, hq2⟩
  rw [← List.drop_drop, List.take_append_drop]
theorem Op.struct {P : Program} {n : Nat} {t : TypeId} {fs : Array Field} {α : Type} {d : Kd α} {q : α → Prop} (ht : P.underlying t = some (.struct fs)) (hsz : P.cellsOf t = d.sz) (h : ∀ k, k < n → OpF P k fs.toList 0 d q) : Op P n t d q := by
  intro H enc w base spare held fuel cs x hf hx
  obtain ⟨xs, m, hm, _, hl, hxl, hfs⟩ := DataW.trod_struct ht hx
  have hr := h m (by omega) H enc w base spare held m cs (Nat.le_refl _) (fun f hfm => ?_) (by omega)
  · simpa using hr
  · obtain ⟨i, hi, rfl⟩ := List.getElem_of_mem hfm
    have hi' : i < fs.size := by simpa using hi
    have h2 := hfs i _ (Array.getElem?_eq_getElem hi')
    rw [List.getElem?_eq_getElem (by omega)] at h2
    exact ⟨_, by simpa using h2⟩
/-- The same at whatever fuel. -/
theorem Op.open_ {P : Program} {t : TypeId} {α : Type} {d : Kd α} {q : α → Prop} (h : ∀ n, Op P n t d q) {H : Type} {enc : TypeId × Value → H} {w : World} {base : Nat} {spare : Nat → Bool} {held : Bool} {v : Value} {x : DataW H} {ps : List MemPlace}
    (ht : DataW.Trod enc P w base spare held t v x ps) : ∃ y, d.K w y v.cells.toList ∧ q y := by
  obtain ⟨fuel, hf⟩ := ht
  exact h fuel H enc w base spare held fuel _ _ (Nat.le_refl _) hf
end Go.Proofs.YtgplgphchdgedaaDoor.Rd
end
section
namespace Go.Proofs.YtgplgphchdgedaaDoor.Px
open Go.RowKit Go.Proofs.YtgplgphchdgedaaDoor.Ext Go.Proofs.YtgplgphchdgedaaDoorW.PrintWords Go.Proofs.YtgplgphchdgedaaDoorW.PrintLast Go.Proofs.YtgplgphchdgedaaDoorW.PrintMore Go.Proofs.YtgplgphchdgedaaDoor
set_option linter.unusedVariables false
set_option linter.unusedSimpArgs false

theorem fold25 : ∀ (w : World) (x : S25) (cs : List Value), (F25 k25).K w x cs → k25.K w x cs := by
  intro w x cs h
  obtain ⟨_, _, rfl, rfl, ⟨_, _, rfl, ⟨A1, c1, rfl, l1, g1⟩, ⟨A2, c2, rfl, l2, g2⟩⟩⟩ := h
  exact k25_mk w x l1 g1 l2 g2
theorem op25 : ∀ n, Rd.Op Tryd.prog n 25 k25 W25 := by
  intro n
  induction n using Nat.strongRecOn with
  | _ n ih =>
  exact Rd.Op.imp (d := F25 k25) fold25 (fun x h => W25.mk h.1 h.2.1 h.2.2.1 h.2.2.2) (Rd.Op.iso (g := fun p => ⟨p.1, p.2.1, p.2.2⟩) (fun _ => rfl) (Rd.Op.struct Tryd.underlying25 (by kernel_rfl) (fun j0 hj0 => (Rd.OpF.cons rfl (by kernel_rfl) (Rd.Op.int Tryd.underlying3) (Rd.OpF.cons rfl (by kernel_rfl) (Rd.Op.slice Tryd.underlying22 (by kernel_rfl) (fun j1 hj1 => (Rd.Op.string Tryd.underlying9))) (Rd.OpF.one rfl (by kernel_rfl) (Rd.Op.slice Tryd.underlying23 (by kernel_rfl) (fun j1 hj1 => ih j1 (by omega)))))))))
theorem fold28 : ∀ (w : World) (x : S28) (cs : List Value), (F28 k28).K w x cs → k28.K w x cs := by
  intro w x cs h
  obtain ⟨_, _, rfl, rfl, ⟨_, _, rfl, rfl, ⟨_, _, rfl, rfl, ⟨_, _, rfl, s3, ⟨_, _, rfl, ⟨A4, c4, rfl, l4, g4⟩, ⟨A5, c5, rfl, l5, g5⟩⟩⟩⟩⟩⟩ := h
  obtain ⟨A3_1, c3_1, A3_2, c3_2, rfl, l3_1, g3_1, l3_2, g3_2⟩ := k25_open s3
  exact k28_mk w x l3_1 g3_1 l3_2 g3_2 l4 g4 l5 g5
theorem op28 : ∀ n, Rd.Op Tryd.prog n 28 k28 W28 := by
  intro n
  induction n using Nat.strongRecOn with
  | _ n ih =>
  exact Rd.Op.imp (d := F28 k28) fold28 (fun x h => W28.mk h.1 h.2.1 h.2.2.1 h.2.2.2.1 h.2.2.2.2.1 h.2.2.2.2.2.1 h.2.2.2.2.2.2) (Rd.Op.iso (g := fun p => ⟨p.1, p.2.1, p.2.2.1, p.2.2.2.1, p.2.2.2.2.1, p.2.2.2.2.2⟩) (fun _ => rfl) (Rd.Op.struct Tryd.underlying28 (by kernel_rfl) (fun j0 hj0 => (Rd.OpF.cons rfl (by kernel_rfl) (Rd.Op.int Tryd.underlying3) (Rd.OpF.cons rfl (by kernel_rfl) (Rd.Op.string Tryd.underlying9) (Rd.OpF.cons rfl (by kernel_rfl) (Rd.Op.int Tryd.underlying3) (Rd.OpF.cons rfl (by kernel_rfl) (op25 _) (Rd.OpF.cons rfl (by kernel_rfl) (Rd.Op.slice Tryd.underlying22 (by kernel_rfl) (fun j1 hj1 => (Rd.Op.string Tryd.underlying9))) (Rd.OpF.one rfl (by kernel_rfl) (Rd.Op.slice Tryd.underlying26 (by kernel_rfl) (fun j1 hj1 => ih j1 (by omega))))))))))))
end Go.Proofs.YtgplgphchdgedaaDoor.Px
end
section
namespace Go.Proofs.YtgplgphchdgedaaDoor.fnExactFormatTerm
open Go.ChangeShapes Go.WideShapes Go.ChangeAt Go.RowKit Go.Proofs.YtgplgphchdgedaaDoor.Px Go.Proofs.YtgplgphchdgedaaDoorW.PrintWords
open Go.ChangeMaps (open_string shut_string)
set_option linter.unusedVariables false
theorem own : ownKnob Tryd.prog.godebug = none := by kernel_rfl
theorem laidOut : laidOutB Tryd.prog = true := by kernel_rfl
/-- A heap whose block i holds these cells. -/
noncomputable def layAt (h : Array Obj) (i : Nat) (cs : Array Value) : Array Obj := h.modify i fun
  | .cells _ t frozen => .cells cs t frozen
  | o => o
open Go.Proofs.YtgplgphchdgedaaDoor.Ext (Laid gPow)
/-- The world of the witness: the listed variables hold what they are laid with. -/
noncomputable def laidWorld (os : Os) : World :=
  { World.holding Tryd.prog os ⟨#[], #[], []⟩ with heap := (layAt (layAt (layAt (World.holding Tryd.prog os ⟨#[], #[], []⟩).heap 2
      (([0, 1, 28, 2, 29, 14, 24, 3, 30, 22, 20, 15, 25, 17, 4, 8, 31, 27, 13, 23, 21, 19, 16, 7, 26, 12, 18, 6, 11, 5, 10, 9] : List Int).map fun z => Value.int .u8 z).toArray) 3
      (([0, 1, 56, 2, 57, 49, 28, 3, 61, 58, 42, 50, 38, 29, 17, 4, 62, 47, 59, 36, 45, 43, 51, 22, 53, 39, 33, 30, 24, 18, 12, 5, 63, 55, 48, 27, 60, 41, 37, 16, 46, 35, 44, 21, 52, 32, 23, 11, 54, 26, 40, 15, 34, 20, 31, 10, 25, 14, 19, 9, 13, 8, 7, 6] : List Int).map fun z => Value.int .u8 z).toArray) 0
      (([1, 10, 100, 1000, 10000, 100000, 1000000, 10000000, 100000000, 1000000000, 10000000000, 100000000000, 1000000000000, 10000000000000, 100000000000000, 1000000000000000, 10000000000000000, 100000000000000000, 1000000000000000000, 10000000000000000000] : List Int).map fun z => Value.int .u64 z).toArray) }
theorem laidWorld_met (os : Os) (args : Array Value) : laidMetH Tryd.prog Rows.fnExactFormatTermRow.laid ((laidWorld os).forCall (fun _ _ => 0) ⟨#[], args, []⟩).memory :=
  laidMetH_of_parts (laidMet_of_run' 8 (by kernel_rfl) (by kernel_rfl)) (by kernel_rfl)
theorem laid_one : ((Rows.fnExactFormatTermRow.laid.filter fun x => x.2.handleName?.isNone).filter fun x => x.1 == "internal/strconv.uint64pow10") = [("internal/strconv.uint64pow10", Lib.tabData .u64 Lib.pow10Tab)] := by kernel_rfl
theorem laid_of {W : World} (h : laidMetH Tryd.prog Rows.fnExactFormatTermRow.laid W) : Lib.TabIs Tryd.prog W "internal/strconv.uint64pow10" .u64 Lib.pow10Tab := by
  have h1 := ((laidMetH_iff.1 h).1).filter (fun x => x.1 == "internal/strconv.uint64pow10")
  rw [laid_one] at h1
  exact Lib.tabIs_of_head (t := 108) (e := 100) (n := 20) gPow (by kernel_rfl) (by kernel_rfl) (by kernel_rfl) (by kernel_rfl) (by kernel_rfl) h1
set_option maxRecDepth 100000 in
theorem lifted (os : Os) (started : os.Started) (H : Type) (enc : TypeId × Value → H) :
    ReturnsInHanded {} Tryd.checked os 3 .any (fun w args => (Rows.fnExactFormatTermSpec.pre enc Tryd.prog Tryd.f3 [] false w args ∧ laidMetH Tryd.prog Rows.fnExactFormatTermRow.laid w) ∧ sizedMet enc Tryd.prog Tryd.f3 (OpenSpec.ofChange Rows.fnExactFormatTermSpec) false w args) (Rows.fnExactFormatTermSpec.post enc Tryd.prog Tryd.f3 false true false false) := by
  refine returnsInHanded_of_change_and (C := Tryd.checked) (X := fun w _ => laidMetH Tryd.prog Rows.fnExactFormatTermRow.laid w) (fun _ _ _ hh h => h.of_heap hh) own started (by kernel_rfl) Tryd.func3
    (ChangeSpec.witness_at (enc := enc) (C := Tryd.checked) (os := os) (X := fun w _ => laidMetH Tryd.prog Rows.fnExactFormatTermRow.laid w) false (laidWorld os) #[.agg #[.int .i64 0, .string ByteArray.empty, .int .i64 0, .int .i64 0, .slice none 0 0, .slice none 0 0, .slice none 0 0, .slice none 0 0]] 8 rfl (by kernel_rfl) (by kernel_rfl) (by kernel_rfl) (by kernel_rfl) (by kernel_rfl) (laidWorld_met os _)) ?_
  intro W base args ds gs before hval0 hW hcnd hsz0 hL0 _
  have hL : Laid W := laid_of hL0
  have hsz : (DataW.weightsEach Tryd.prog (Tryd.f3.params.toList ++ Rows.fnExactFormatTermSpec.plain.varTypes Tryd.prog) (ds ++ gs)).all (· ≤ reachBytes) = true := hsz0
  have hval : ∀ (j : Nat) t v, Tryd.f3.params[j]? = some t → args[j]? = some v → Value.okWide Tryd.prog W .any base t v := hval0
  have hW' := hW
  obtain ⟨p, q, hA0, hV, rfl, hfz, hnd⟩ := hW
  have hA : DataW.TrodAll enc Tryd.prog W 0 (fun _ => true) true Tryd.f3.params.toList args.toList ds p := hA0
  rw [Tryd.params3] at hA hval hsz
  obtain ⟨v0, vs0, d0, ds0, p0, q0, hargs, rfl, rfl, h0, r0⟩ := trodAll_cons hA
  obtain ⟨rfl, rfl, rfl⟩ := trodAll_nil r0
  obtain rfl : args = #[v0] := by cases args; simp_all
  obtain ⟨rfl, rfl⟩ := trodVars_none hV
  have k0 := h0
  have lt0 : ∀ x ∈ p0, x.block < W.heap.size := by obtain ⟨m, hm⟩ := k0; exact DataW.trod_lt m _ _ _ hm
  obtain ⟨cs0, rfl, _⟩ := okWide_struct Tryd.underlying28 (hval 0 28 v0 rfl rfl)
  obtain ⟨x0, K0, Q0⟩ := Rd.Op.open_ op28 h0
  obtain ⟨A0_4, c0_4, A0_5, c0_5, A0_6, c0_6, A0_7, c0_7, e0, l0_4, g0_4, l0_5, g0_5, l0_6, g0_6, l0_7, g0_7⟩ := k28_open K0
  obtain rfl : cs0 = #[.int .i64 x0.f0, .string x0.f1, .int .i64 x0.f2, .int .i64 x0.f3.f0, .slice A0_4 x0.f3.f1.length c0_4, .slice A0_5 x0.f3.f2.length c0_5, .slice A0_6 x0.f4.length c0_6, .slice A0_7 x0.f5.length c0_7] := by cases cs0; simpa [Value.cells] using e0
  clear hA0 hval0 hsz0 hsz
  obtain ⟨k, hk⟩ := Pure.FnExactFormatTerm x0.f0 x0.f1 x0.f2 x0.f3.f0 x0.f3.f1 x0.f3.f2 x0.f4 x0.f5 (by obtain ⟨_, _, _, ⟨_, _, _⟩, _, _⟩ := x0; exact Q0)
  refine (Px.laws_FnExactFormatTerm.calls k x0.f0 x0.f1 x0.f2 x0.f3.f0 _ _ x0.f3.f1 _ _ x0.f3.f2 _ _ x0.f4 _ _ x0.f5 true W g0_4 l0_4 g0_5 l0_5 g0_6 l0_6 g0_7 l0_7 hL hk).mono fun e W' he => ?_
  obtain ⟨he, bel⟩ : e = .returned (.bool true) ∧ Below W.heap.size W W' := ⟨he.1, he.2⟩
  subst he
  exact ⟨_, rfl, _, _, _, [], _, [], hW', trodAll_mk1 (shut_bool Tryd.underlying4 _), (trodAll_cons_mk (Below.trod laidOut (by kernel_rfl) (of_decide_eq_true (by kernel_rfl)) k0 bel lt0) trodAll_mk0), rfl, bel.frame _, fun h => by cases h⟩
theorem over : Rows.fnExactFormatTermRow.holds Tryd.pinned (OpenSpec.ofChange Rows.fnExactFormatTermSpec) :=
  OpenClaim.holds_of_wide 3 Tryd.f3 rfl rfl rfl rfl rfl rfl rfl ⟨rfl, rfl, rfl, rfl, rfl⟩ rfl rfl rfl rfl rfl (by kernel_rfl) Tryd.func3 (by kernel_rfl)
    (of_decide_eq_true (by kernel_rfl)) (by unfold Func.isWrapper; first | (rw [if_pos (by decide +kernel)]; kernel_rfl) | (rw [if_neg (by decide +kernel)]; exact ⟨rfl, rfl⟩))
    (fun os started H enc _ => lifted os started H enc)
theorem proved : Rows.FnExactFormatTermSaid := over
#print axioms proved
end Go.Proofs.YtgplgphchdgedaaDoor.fnExactFormatTerm
namespace Go.Proofs.YtgplgphchdgedaaDoor
/-- The row, under a short name, for the claim. -/
theorem fnExactFormatTerm_holds : Rows.FnExactFormatTermSaid := fnExactFormatTerm.proved
end Go.Proofs.YtgplgphchdgedaaDoor
end
