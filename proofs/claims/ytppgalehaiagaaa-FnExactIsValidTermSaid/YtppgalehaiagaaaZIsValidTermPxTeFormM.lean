/- Is a term right: the program's and the reference's tests of one node and of a whole term come to the same. No condition beyond the sizes named. -/
import Derived.Test.YtppgalehaiagaaaZIsValidTermPx0M
import Derived.Test.YtppgalehaiagaaaZIsValidTermPx19
import Derived.Test.YtppgalehaiagaaaZIsValidTermPx20
import Derived.Test.YtppgalehaiagaaaZIsValidTermPx21
import Derived.Test.YtppgalehaiagaaaZIsValidTermPx22
import Derived.Test.YtppgalehaiagaaaZIsValidTermPx23M
import Derived.Test.YtppgalehaiagaaaZIsValidTermPlM
import Derived.Test.YtppgalehaiagaaaZIsValidTermWLastM
import Derived.Lib.Strings
import Derived.Test.YtppgalehaiagaaaZIsValidTermPx2M
import Derived.Test.YtppgalehaiagaaaZIsValidTermPx25
import Derived.Test.YtppgalehaiagaaaZIsValidTermPx26
import Derived.Test.YtppgalehaiagaaaZIsValidTermPx6M
import Derived.Test.YtppgalehaiagaaaZIsValidTermWWords
import Derived.Deep.Slices
import Derived.ChangeArms
import Derived.DataReads
section
namespace Go.Proofs.Ytppgalehaiagaaa.Px
open Go.RowKit Go.Proofs.YtppgalehaiagaaaW.PrintWords Go.Proofs.YtppgalehaiagaaaW.PrintLast Go.Proofs.Ytppgalehaiagaaa.Pl Go.Proofs.Ytppgalehaiagaaa.Ext
set_option linter.unusedVariables false
set_option linter.unusedSimpArgs false
/-- How many arguments an operation takes. -/
def arO (s : ByteArray) : Int := if s.toList = ([43] : List UInt8) ∨ s.toList = ([45] : List UInt8) ∨ s.toList = ([61] : List UInt8) ∨ s.toList = ([60] : List UInt8) ∨ s.toList = ([38] : List UInt8) ∨ s.toList = ([124] : List UInt8) then 2 else if s.toList = ([33] : List UInt8) then 1 else 0
theorem arO_three (s : ByteArray) : arO s = 0 ∨ arO s = 1 ∨ arO s = 2 := by unfold arO; split; exact Or.inr (Or.inr rfl); split; exact Or.inr (Or.inl rfl); exact Or.inl rfl
theorem spec_OpArity_eq (s : ByteArray) (k : Nat) (hk : 1 ≤ k) : spec_OpArity.f k s = some (arO s) := by
  obtain ⟨k, rfl⟩ : ∃ j, k = j + 1 := ⟨k - 1, by omega⟩
  simp only [spec_OpArity.f, spec_OpArity.j0, arO]
  by_cases h1 : s.toList = ([43] : List UInt8)
  · simp [h1]
  by_cases h2 : s.toList = ([45] : List UInt8)
  · simp [h1, h2]
  by_cases h3 : s.toList = ([61] : List UInt8)
  · simp [h1, h2, h3]
  by_cases h4 : s.toList = ([60] : List UInt8)
  · simp [h1, h2, h3, h4]
  by_cases h5 : s.toList = ([38] : List UInt8)
  · simp [h1, h2, h3, h4, h5]
  by_cases h6 : s.toList = ([124] : List UInt8)
  · simp [h1, h2, h3, h4, h5, h6]
  by_cases h7 : s.toList = ([33] : List UInt8)
  · simp [h1, h2, h3, h4, h5, h6, h7]
  · simp [h1, h2, h3, h4, h5, h6, h7]
theorem impl_OpArity_eq (s : ByteArray) (k : Nat) (hk : 1 ≤ k) : impl_OpArity.f k s = some (arO s) := by
  obtain ⟨k, rfl⟩ : ∃ j, k = j + 1 := ⟨k - 1, by omega⟩
  simp only [impl_OpArity.f, impl_OpArity.j0, arO]
  by_cases h1 : s.toList = ([43] : List UInt8)
  · simp [h1]
  by_cases h2 : s.toList = ([45] : List UInt8)
  · simp [h1, h2]
  by_cases h3 : s.toList = ([61] : List UInt8)
  · simp [h1, h2, h3]
  by_cases h4 : s.toList = ([60] : List UInt8)
  · simp [h1, h2, h3, h4]
  by_cases h5 : s.toList = ([38] : List UInt8)
  · simp [h1, h2, h3, h4, h5]
  by_cases h6 : s.toList = ([124] : List UInt8)
  · simp [h1, h2, h3, h4, h5, h6]
  by_cases h7 : s.toList = ([33] : List UInt8)
  · simp [h1, h2, h3, h4, h5, h6, h7]
  · simp [h1, h2, h3, h4, h5, h6, h7]
/-- Has a kind of terms a name? a type? -/
def nmd (a : Int) : Bool := decide (a = 1 ∨ a = 6 ∨ a = 10 ∨ a = 12 ∨ a = 13)
def typd (a : Int) : Bool := decide (a = 7 ∨ a = 13)
def zT (t : S33) : Bool := decide (t.f0 = 0) && (decide (t.f1.length = 0) && decide (t.f2.length = 0))
def aryTe (a : Int) (ar : Int) (ll : Int) : Int := if a = 1 ∨ a = 2 ∨ a = 3 ∨ a = 7 ∨ a = 12 then 0 else if a = 4 then ar else if a = 5 then ll else if a = 6 ∨ a = 8 ∨ a = 13 ∨ a = 15 ∨ a = 16 then 1 else if a = 9 ∨ a = 10 ∨ a = 14 then 2 else if a = 11 then 3 else -1
/-- The fields of a node. -/
def fldB (a : Int) (nm : ByteArray) (n : Int) (t : S33) (l : List ByteArray) : Bool :=
  (if a = 4 then decide (arO nm ≠ 0) else (nmd a == isName nm) && (nmd a || decide (nm.toList = ([] : List UInt8)))) && ((typd a == vT t) && ((typd a || zT t) && ((if a = 5 then labB l else decide (l.length = 0)) && decide (0 ≤ n ∧ n ≤ (if a = 2 then 999 else if a = 3 then 1 else 0)))))
def nodeB (a : Int) (nm : ByteArray) (n : Int) (t : S33) (l : List ByteArray) (m : Nat) : Bool := fldB a nm n t l && decide ((m : Int) = aryTe a (arO nm) (l.length : Int))
theorem kinds (a : Int) : a = 1 ∨ a = 2 ∨ a = 3 ∨ a = 4 ∨ a = 5 ∨ a = 6 ∨ a = 7 ∨ a = 8 ∨ a = 9 ∨ a = 10 ∨ a = 11 ∨ a = 12 ∨ a = 13 ∨ a = 14 ∨ a = 15 ∨ a = 16 ∨ (a ≠ 1 ∧ a ≠ 2 ∧ a ≠ 3 ∧ a ≠ 4 ∧ a ≠ 5 ∧ a ≠ 6 ∧ a ≠ 7 ∧ a ≠ 8 ∧ a ≠ 9 ∧ a ≠ 10 ∧ a ≠ 11 ∧ a ≠ 12 ∧ a ≠ 13 ∧ a ≠ 14 ∧ a ≠ 15 ∧ a ≠ 16) := by omega
theorem spec_l7Named_eq (a : Int) : spec_l7Named.f a = some (nmd a) := by
  unfold spec_l7Named.f nmd
  by_cases h1 : a = 1
  · simp [h1]
  by_cases h2 : a = 6
  · simp [h2]
  by_cases h3 : a = 10
  · simp [h3]
  by_cases h4 : a = 12
  · simp [h4]
  simp [h1, h2, h3, h4] <;> rfl
theorem zT_vT (t : S33) (h : zT t = true) : vT t = false := by
  simp only [zT, Bool.and_eq_true, decide_eq_true_eq] at h
  obtain ⟨h0, h1, h2⟩ := h
  have e1 : t.f1 = [] := List.length_eq_zero_iff.1 h1
  have e2 : t.f2 = [] := List.length_eq_zero_iff.1 h2
  have : formT t = false := by rw [formT_eq, h0, e1, e2]; rfl
  simp [vT, this]
theorem isName_nil (s : ByteArray) (h : s.toList = ([] : List UInt8)) : isName s = false := by
  have hs : s.size = 0 := by
    have : s.toList.length = s.size := by rw [Lib.toList_data]; exact Array.length_toList
    rw [← this, h]; rfl
  simp [isName, hs]
theorem spec_l7Fields_ev (x : S36) (hs : SmTerm x) (hn : ndType x.f3 ≤ 1048577) : Ev (fun k => spec_l7Fields.f k x.f0 x.f1 x.f2 x.f3.f0 x.f3.f1 x.f3.f2 x.f4 x.f5) (fldB x.f0 x.f1 x.f2 x.f3 x.f4) := by
  have j3 : ∀ b : Bool, Ev (fun k => spec_l7Fields.j3 k b x.f0 x.f1 x.f2 x.f3.f0 x.f3.f1 x.f3.f2 x.f4 x.f5) (!b && decide (0 ≤ x.f2 ∧ x.f2 ≤ (if x.f0 = 2 then 999 else if x.f0 = 3 then 1 else 0))) := by
    intro b
    refine Ev.up ?_
    simp only [spec_l7Fields.j3, spec_l1In_eq, Option.bind_some]
    refine Ev.cases (fun h => Ev.const (by simp [h])) (fun h => ?_)
    rw [Bool.eq_false_iff.2 h, Bool.not_false, Bool.true_and]
    refine Ev.cases (fun h2 => ?_) (fun h2 => ?_)
    · rw [if_pos h2]; exact Ev.now _
    · rw [if_neg h2]
      refine Ev.cases (fun h3 => ?_) (fun h3 => ?_)
      · rw [if_pos h3]; exact Ev.now _
      · rw [if_neg h3]; exact Ev.now _
  have j2 : ∀ b : Bool, Ev (fun k => spec_l7Fields.j2 k b x.f0 x.f1 x.f2 x.f3.f0 x.f3.f1 x.f3.f2 x.f4 x.f5) (!b && ((if x.f0 = 5 then labB x.f4 else decide (x.f4.length = 0)) && decide (0 ≤ x.f2 ∧ x.f2 ≤ (if x.f0 = 2 then 999 else if x.f0 = 3 then 1 else 0)))) := by
    intro b
    refine Ev.up ?_
    simp only [spec_l7Fields.j2]
    refine Ev.cases (fun h => Ev.const (by simp [h])) (fun h => ?_)
    rw [Bool.eq_false_iff.2 h, Bool.not_false, Bool.true_and]
    refine Ev.cases (fun h5 => ?_) (fun h5 => ?_)
    · rw [if_pos h5]
      refine Ev.bind (spec_l3Labels_ev x.f4 hs.p4.1 hs.p4.2) ?_
      refine Ev.cases (fun g => ?_) (fun g => ?_)
      · rw [g]; exact j3 false
      · rw [Bool.eq_false_iff.2 g]; exact j3 true
    · rw [if_neg h5]
      refine Ev.eq (j3 _) ?_
      by_cases hl : x.f4.length = 0
      · simp [hl]
      · rw [decide_eq_false hl, decide_eq_true (by omega : (x.f4.length : Int) > 0)]; rfl
  have j1 : ∀ b : Bool, Ev (fun k => spec_l7Fields.j1 k b x.f0 x.f1 x.f2 x.f3.f0 x.f3.f1 x.f3.f2 x.f4 x.f5) ((b == vT x.f3) && ((b || zT x.f3) && ((if x.f0 = 5 then labB x.f4 else decide (x.f4.length = 0)) && decide (0 ≤ x.f2 ∧ x.f2 ≤ (if x.f0 = 2 then 999 else if x.f0 = 3 then 1 else 0))))) := by
    intro b
    refine Ev.up ?_
    simp only [spec_l7Fields.j1]
    refine Ev.bind (spec_IsValidType_ev x.f3 hs.p3 hn) ?_
    refine Ev.cases (fun h1 => ?_) (fun h1 => ?_)
    · rw [h1]
      refine Ev.cases (fun hv => ?_) (fun hv => ?_)
      · rw [hv]; exact Ev.eq (j2 false) (by simp)
      · rw [Bool.eq_false_iff.2 hv]; exact Ev.eq (j2 true) (by simp)
    rw [Bool.eq_false_iff.2 h1]
    refine Ev.cases (fun hv => ?_) (fun hv => ?_)
    · rw [hv]; exact Ev.eq (j2 true) (by simp)
    rw [Bool.eq_false_iff.2 hv, Bool.false_or, show (false == false) = true from rfl, Bool.true_and]
    unfold zT
    refine Ev.cases (fun h0 => ?_) (fun h0 => ?_)
    · rw [decide_eq_true h0, Bool.true_and]
      refine Ev.cases (fun hl => ?_) (fun hl => ?_)
      · rw [decide_eq_false (by omega : ¬ x.f3.f1.length = 0), Bool.false_and]; exact j2 true
      · rw [decide_eq_true (by omega : x.f3.f1.length = 0), Bool.true_and]
        refine Ev.eq (j2 _) ?_
        by_cases hl : x.f3.f2.length = 0
        · simp [hl]
        · rw [decide_eq_false hl, decide_eq_true (by omega : (x.f3.f2.length : Int) > 0)]; rfl
    · rw [decide_eq_false h0, Bool.false_and]; exact j2 true
  have j0 : Ev (fun k => spec_l7Fields.j0 k x.f0 x.f1 x.f2 x.f3.f0 x.f3.f1 x.f3.f2 x.f4 x.f5) ((typd x.f0 == vT x.f3) && ((typd x.f0 || zT x.f3) && ((if x.f0 = 5 then labB x.f4 else decide (x.f4.length = 0)) && decide (0 ≤ x.f2 ∧ x.f2 ≤ (if x.f0 = 2 then 999 else if x.f0 = 3 then 1 else 0))))) := by
    refine Ev.up ?_
    simp only [spec_l7Fields.j0]
    refine Ev.cases (fun h => ?_) (fun h => ?_)
    · rw [show typd x.f0 = true from by simp [typd, h]]; exact j1 true
    · rw [show typd x.f0 = (x.f0 == 13) from by by_cases h13 : x.f0 = 13 <;> simp [typd, h, h13]]; exact j1 _
  simp only [spec_l7Fields.f, fldB]
  refine Ev.cases (fun h4 => ?_) (fun h4 => ?_)
  · rw [if_pos h4]
    refine Ev.bind ⟨1, fun k hk => spec_OpArity_eq x.f1 k hk⟩ ?_
    refine Ev.cases (fun h => ?_) (fun h => ?_)
    · rw [decide_eq_false (by simpa using h), Bool.false_and]; exact Ev.now _
    · rw [decide_eq_true h, Bool.true_and]; exact j0
  · rw [if_neg h4]
    simp only [spec_l7Named_eq, Option.bind_some]
    refine Ev.bind (spec_IsName_ev x.f1 hs.p1) ?_
    refine Ev.cases (fun h => ?_) (fun h => ?_)
    · rw [h]
      refine Ev.cases (fun hi => ?_) (fun hi => ?_)
      · rw [hi]; exact Ev.eq j0 (by simp)
      · rw [Bool.eq_false_iff.2 hi]; exact Ev.const (by simp)
    · rw [Bool.eq_false_iff.2 h]
      refine Ev.cases (fun hi => ?_) (fun hi => ?_)
      · rw [hi]; exact Ev.const (by simp)
      · rw [Bool.eq_false_iff.2 hi]
        refine Ev.cases (fun h2 => ?_) (fun h2 => ?_)
        · rw [decide_eq_true h2]; exact Ev.eq j0 (by simp)
        · rw [decide_eq_false h2]; exact Ev.const (by simp)
theorem spec_l7Arity_eq (x : S36) (k : Nat) (hk : 4 ≤ k) : spec_l7Arity.f k x.f0 x.f1 x.f2 x.f3.f0 x.f3.f1 x.f3.f2 x.f4 x.f5 = some (aryTe x.f0 (arO x.f1) (x.f4.length : Int)) := by
  obtain ⟨k, rfl⟩ : ∃ j, k = j + 4 := ⟨k - 4, by omega⟩
  generalize x.f0 = a
  rcases kinds a with rfl | rfl | rfl | rfl | rfl | rfl | rfl | rfl | rfl | rfl | rfl | rfl | rfl | rfl | rfl | rfl | ⟨h1, h2, h3, h4, h5, h6, h7, h8, h9, h10, h11, h12, h13, h14, h15, h16⟩
  all_goals simp [spec_l7Arity.f, spec_l7Arity.j0, spec_l7Arity.j1, spec_l7Arity.j2, aryTe, spec_OpArity_eq x.f1 _ (Nat.succ_le_succ (Nat.zero_le _)), *]
mutual
def formTe : S36 → Bool
  | ⟨a, nm, n, t, l, xs⟩ => formTeS xs && nodeB a nm n t l xs.length
def formTeS : List S36 → Bool
  | [] => true
  | x :: r => formTe x && formTeS r
end
theorem formTe_eq (x : S36) : formTe x = (formTeS x.f5 && nodeB x.f0 x.f1 x.f2 x.f3 x.f4 x.f5.length) := by cases x; simp only [formTe]
theorem formTeS_all (xs : List S36) : formTeS xs = xs.all formTe := by
  induction xs with
  | nil => rfl
  | cons x r ih => simp [formTeS, ih]
mutual
/-- The greatest number of nodes of a type within a term. -/
def tyTe : S36 → Nat
  | ⟨_, _, _, t, _, xs⟩ => max (ndType t) (tyTeS xs)
def tyTeS : List S36 → Nat
  | [] => 0
  | x :: r => max (tyTe x) (tyTeS r)
end
theorem tyTe_eq (x : S36) : tyTe x = max (ndType x.f3) (tyTeS x.f5) := by cases x; simp only [tyTe]
theorem tyTeS_le (xs : List S36) (n : Nat) : tyTeS xs ≤ n ↔ ∀ y ∈ xs, tyTe y ≤ n := by
  induction xs with
  | nil => simp [tyTeS]
  | cons x r ih => simp [tyTeS, Nat.max_le, ih]
theorem tyTe_cv : ∀ x : S28, tyTe (cvTerm x) ≤ wtTerm x + 1 := by
  refine indTermL fun x ih => ?_
  rw [tyTe_eq, cvTerm_eq, wtTerm_eq]
  dsimp only
  have h1 := ndType_cv x.f3
  have h2 : tyTeS (cvTermS x.f5) ≤ wtTermS x.f5 + 1 := by
    rw [tyTeS_le, cvTermS_map]
    intro y hy
    obtain ⟨z, hz, rfl⟩ := List.mem_map.1 hy
    have := sum_le_of_mem wtTerm hz
    rw [← wtTermS_sum] at this
    have := ih z hz
    omega
  omega
theorem spec_l7Form_ev : ∀ x : S36, SmTerm x → tyTe x ≤ 1048577 → Ev (fun k => spec_l7Form.f k x.f0 x.f1 x.f2 x.f3.f0 x.f3.f1 x.f3.f2 x.f4 x.f5) (formTe x) := by
  refine indTermI fun x ih hs ht => ?_
  rw [tyTe_eq] at ht
  have ht2 := (tyTeS_le x.f5 1048577).1 (by omega)
  rw [formTe_eq, formTeS_all]
  refine Ev.up ?_
  simp only [spec_l7Form.f]
  refine all_ev x.f5 z36 formTe _ (fun k i => spec_l7Form.l0 k (i : Int) x.f0 x.f1 x.f2 x.f3.f0 x.f3.f1 x.f3.f2 x.f4 x.f5) (fun k i => spec_l7Form.f k (rd_T36 x.f5 (i : Int)).f0 (rd_T36 x.f5 (i : Int)).f1 (rd_T36 x.f5 (i : Int)).f2 (rd_T36 x.f5 (i : Int)).f3.f0 (rd_T36 x.f5 (i : Int)).f3.f1 (rd_T36 x.f5 (i : Int)).f3.f2 (rd_T36 x.f5 (i : Int)).f4 (rd_T36 x.f5 (i : Int)).f5) (fun k i hi => ?_) ?_ (fun i hi => ih (x.f5.getD i z36) (mem_getD x.f5 z36 i hi) (hs.p5.2 _ (mem_getD x.f5 z36 i hi)) (ht2 _ (mem_getD x.f5 z36 i hi)))
  · simp only [spec_l7Form.l0]
    rw [if_pos (by omega), if_pos (by omega), w1' hi hs.p5.1]
  · refine Ev.up ?_
    simp only [spec_l7Form.l0]
    refine Ev.neg (by omega) ?_
    unfold nodeB
    refine Ev.bind (spec_l7Fields_ev x hs (by omega)) ?_
    refine Ev.cases (fun g => ?_) (fun g => ?_)
    · rw [g, Bool.true_and]
      refine Ev.bind ⟨4, fun k hk => spec_l7Arity_eq x k hk⟩ (Ev.const ?_)
      by_cases he : (x.f5.length : Int) = aryTe x.f0 (arO x.f1) (x.f4.length : Int)
      · rw [decide_eq_true he]; simpa using he
      · rw [decide_eq_false he]; simpa using he
    · rw [Bool.eq_false_iff.2 g]; exact Ev.now _

end Go.Proofs.Ytppgalehaiagaaa.Px
end
section
namespace Go.Proofs.Ytppgalehaiagaaa.Px
open Go.RowKit Go.Proofs.YtppgalehaiagaaaW.PrintWords Go.Proofs.YtppgalehaiagaaaW.PrintLast Go.Proofs.Ytppgalehaiagaaa.Pl Go.Proofs.Ytppgalehaiagaaa.Ext
set_option linter.unusedVariables false
set_option linter.unusedSimpArgs false
theorem spec_l1Max_eqTe (a b : Int) : spec_l1Max.f a b = some (mx a b) := by
  rw [mx_eq]; unfold spec_l1Max.f; split <;> rfl
theorem DepthOfTerm_same_ : ∀ x : S36, SmTerm x → Same (fun k => spec_DepthOfTerm.f k x.f0 x.f1 x.f2 x.f3.f0 x.f3.f1 x.f3.f2 x.f4 x.f5) (fun k => impl_DepthOfTerm.f k x.f0 x.f1 x.f2 x.f3.f0 x.f3.f1 x.f3.f2 x.f4 x.f5) := by
  refine indTermI fun x ih hs => ?_
  refine Same.up ?_
  simp only [spec_DepthOfTerm.f, impl_DepthOfTerm.f]
  refine Same.loop x.f5.length (fun k (s : Int) i => spec_DepthOfTerm.l0 k s (i : Int) x.f0 x.f1 x.f2 x.f3.f0 x.f3.f1 x.f3.f2 x.f4 x.f5) (fun k s i => impl_DepthOfTerm.l0 k s (x.f5.length : Int) (i : Int) x.f0 x.f1 x.f2 x.f3.f0 x.f3.f1 x.f3.f2 x.f4 x.f5) (fun s => ?_) (fun i s hi ihl => ?_) 0
  · refine Same.up ?_
    simp only [spec_DepthOfTerm.l0, impl_DepthOfTerm.l0]
    exact Same.neg (by omega) (by omega) (Same.ret rfl)
  · refine Same.up ?_
    simp only [spec_DepthOfTerm.l0, impl_DepthOfTerm.l0, w1' hi hs.p5.1, spec_l1Max_eqTe, Option.bind_some]
    refine Same.pos (by omega) (by omega) (Same.pos (by omega) (by omega) (Same.posR (by omega) ?_))
    exact Same.bind (ih (x.f5.getD i z36) (mem_getD x.f5 z36 i hi) (hs.p5.2 _ (mem_getD x.f5 z36 i hi))) (fun t _ _ => ihl _)
end Go.Proofs.Ytppgalehaiagaaa.Px
end
section
namespace Go.Proofs.Ytppgalehaiagaaa.Px
open Go.RowKit Go.Proofs.YtppgalehaiagaaaW.PrintWords Go.Proofs.YtppgalehaiagaaaW.PrintLast Go.Proofs.Ytppgalehaiagaaa.Pl Go.Proofs.Ytppgalehaiagaaa.Ext
set_option linter.unusedVariables false
set_option linter.unusedSimpArgs false
/-- What the program knows of a kind: how many arguments, has it a name, a type; is it one. -/
def shp (a : Int) (ar : Int) (lb : Bool) (ll : Int) : Int × Bool × Bool × Bool :=
 if a = 1 ∨ a = 12 then (0, true, false, true) else if a = 2 ∨ a = 3 then (0, false, false, true) else if a = 4 then (ar, true, false, decide (ar > 0)) else if a = 5 then (ll, false, false, lb) else if a = 6 then (1, true, false, true) else if a = 7 then (0, false, true, true) else if a = 8 ∨ a = 15 ∨ a = 16 then (1, false, false, true) else if a = 9 ∨ a = 14 then (2, false, false, true) else if a = 10 then (2, true, false, true) else if a = 11 then (3, false, false, true) else if a = 13 then (1, true, true, true) else (0, false, false, false)
theorem impl_shape_ev (x : S36) (hs : SmTerm x) : Ev (fun k => impl_shape.f k x.f0 x.f1 x.f2 x.f3.f0 x.f3.f1 x.f3.f2 x.f4 x.f5) (shp x.f0 (arO x.f1) (labB x.f4) (x.f4.length : Int)) := by
 obtain ⟨K, hK⟩ := impl_labelsOk_ev x.f4 hs.p4.1 hs.p4.2
 refine ⟨K + 5, fun k hk => ?_⟩
 obtain ⟨k, rfl⟩ : ∃ j, k = j + 5 := ⟨k - 5, by omega⟩
 have hL : ∀ j, impl_labelsOk.f (k + j) x.f4 = some (labB x.f4) := fun j => hK (k + j) (by omega)
 have hO : ∀ j, impl_OpArity.f (k + (j + 1)) x.f1 = some (arO x.f1) := fun j => impl_OpArity_eq x.f1 _ (by omega)
 have h3 := hL 3
 have o3 := hO 2
 show impl_shape.f (k + 5) x.f0 x.f1 x.f2 x.f3.f0 x.f3.f1 x.f3.f2 x.f4 x.f5 = _
 generalize x.f0 = a
 rcases kinds a with rfl | rfl | rfl | rfl | rfl | rfl | rfl | rfl | rfl | rfl | rfl | rfl | rfl | rfl | rfl | rfl | ⟨h1, h2, h3', h4, h5, h6, h7, h8, h9, h10, h11, h12, h13, h14, h15, h16⟩
 all_goals simp [impl_shape.f, impl_shape.j0, impl_shape.j1, impl_shape.j2, impl_shape.j3, shp, *]
theorem impl_isZeroType_eq (t : S33) : impl_isZeroType.f t.f0 t.f1 t.f2 = some (zT t) := by
 unfold impl_isZeroType.f zT
 by_cases h0 : t.f0 = 0
 ·by_cases h1 : t.f1.length = 0
  ·by_cases h2 : t.f2.length = 0
   ·simp [h0, h1, h2]
   ·simp [h0, h1, h2]
  ·rw [if_pos h0, if_neg (by omega), decide_eq_false h1]; simp
 ·rw [if_neg h0, decide_eq_false h0]; rfl
/-- One node, as_ the program looks at it. -/
def nodeI (a : Int) (nm : ByteArray) (n : Int) (t : S33) (l : List ByteArray) (m : Nat) (s : Int × Bool × Bool × Bool) : Bool :=
 (s.2.2.2 && (decide ((m : Int) = s.1) && (decide (a = 5) || decide (l.length = 0)))) && ((!(decide (a = 2) && (decide (n < 0) || decide (n > 999))) && (!(decide (a = 3) && (decide (n ≠ 0) && decide (n ≠ 1))) && !(decide (a ≠ 2) && (decide (a ≠ 3) && decide (n ≠ 0))))) && ((if s.2.1 = true then decide (a = 4) || isName nm else decide (nm.toList = ([] : List UInt8))) && (if s.2.2.1 = true then vT t else zT t)))
theorem impl_nodeForm_ev (x : S36) (hs : SmTerm x) (hn : ndType x.f3 ≤ 1048577) : Ev (fun k => impl_nodeForm.f k x.f0 x.f1 x.f2 x.f3.f0 x.f3.f1 x.f3.f2 x.f4 x.f5) (nodeI x.f0 x.f1 x.f2 x.f3 x.f4 x.f5.length (shp x.f0 (arO x.f1) (labB x.f4) (x.f4.length : Int))) := by
 generalize hS : shp x.f0 (arO x.f1) (labB x.f4) (x.f4.length : Int) = s
 have j4 : ∀ b : Bool, Ev (fun k => impl_nodeForm.j4 k b x.f3.f0 x.f3.f1 x.f3.f2) (if b = true then vT x.f3 else zT x.f3) := by
  intro b
  refine Ev.up ?_
  simp only [impl_nodeForm.j4]
  refine Ev.cases (fun h => ?_) (fun h => ?_)
  ·rw [if_pos h]; exact Ev.bind (impl_IsValidType_ev x.f3 hs.p3 hn) (Ev.now _)
  ·rw [if_neg h, impl_isZeroType_eq]; exact Ev.now _
 have j3 : ∀ b c d : Bool, Ev (fun k => impl_nodeForm.j3 k b c d x.f1 x.f3.f0 x.f3.f1 x.f3.f2) (!d && ((b || decide (x.f1.toList = ([] : List UInt8))) && (if c = true then vT x.f3 else zT x.f3))) := by
  intro b c d
  refine Ev.up ?_
  simp only [impl_nodeForm.j3]
  refine Ev.cases (fun h => Ev.const (by simp [h])) (fun h => ?_)
  rw [Bool.eq_false_iff.2 h, Bool.not_false, Bool.true_and]
  refine Ev.cases (fun h1 => ?_) (fun h1 => ?_)
  ·rw [h1, Bool.true_or, Bool.true_and]; exact j4 c
  rw [Bool.eq_false_iff.2 h1, Bool.false_or]
  refine Ev.cases (fun h2 => ?_) (fun h2 => ?_)
  ·rw [decide_eq_true h2, Bool.true_and]; exact j4 c
  ·rw [decide_eq_false h2, Bool.false_and]; exact Ev.now _
 have j2 : ∀ d : Bool, Ev (fun k => impl_nodeForm.j2 k s.2.1 s.2.2.1 d x.f0 x.f1 x.f3.f0 x.f3.f1 x.f3.f2) (!d && ((if s.2.1 = true then decide (x.f0 = 4) || isName x.f1 else decide (x.f1.toList = ([] : List UInt8))) && (if s.2.2.1 = true then vT x.f3 else zT x.f3))) := by
  intro d
  refine Ev.up ?_
  simp only [impl_nodeForm.j2]
  refine Ev.cases (fun h => Ev.const (by simp [h])) (fun h => ?_)
  rw [Bool.eq_false_iff.2 h, Bool.not_false, Bool.true_and]
  refine Ev.cases (fun h1 => ?_) (fun h1 => ?_)
  ·rw [if_pos h1]
   refine Ev.cases (fun h4 => ?_) (fun h4 => ?_)
   ·refine Ev.eq (j3 s.2.1 s.2.2.1 false) ?_
    simp [h1, h4]
   ·refine Ev.bind (impl_IsName_ev x.f1 hs.p1) ?_
    refine Ev.eq (j3 s.2.1 s.2.2.1 _) ?_
    simp [h1, h4]
  ·rw [if_neg h1]
   refine Ev.eq (j3 s.2.1 s.2.2.1 false) ?_
   simp [Bool.eq_false_iff.2 h1]
 have j1 : ∀ d : Bool, Ev (fun k => impl_nodeForm.j1 k s.2.1 s.2.2.1 d x.f0 x.f1 x.f2 x.f3.f0 x.f3.f1 x.f3.f2) (!d && ((!(decide (x.f0 = 3) && (decide (x.f2 ≠ 0) && decide (x.f2 ≠ 1))) && !(decide (x.f0 ≠ 2) && (decide (x.f0 ≠ 3) && decide (x.f2 ≠ 0)))) && ((if s.2.1 = true then decide (x.f0 = 4) || isName x.f1 else decide (x.f1.toList = ([] : List UInt8))) && (if s.2.2.1 = true then vT x.f3 else zT x.f3)))) := by
  intro d
  refine Ev.up ?_
  simp only [impl_nodeForm.j1]
  refine Ev.cases (fun h => ?_) (fun h => ?_)
  ·rw [h]; exact Ev.eq (j2 true) (by simp)
  rw [Bool.eq_false_iff.2 h, Bool.not_false, Bool.true_and]
  refine Ev.cases (fun h3 => ?_) (fun h3 => ?_)
  ·have h2 : ¬ x.f0 = 2 := by omega
   refine Ev.cases (fun n0 => ?_) (fun n0 => ?_)
   ·exact Ev.neg h2 (Ev.eq (j2 false) (by simp [h3, n0]))
   refine Ev.cases (fun n1 => ?_) (fun n1 => ?_)
   ·exact Ev.neg h2 (Ev.eq (j2 false) (by simp [h3, n1]))
   ·refine Ev.eq (j2 _) ?_
    simp [h3, n0, n1]
  ·refine Ev.cases (fun h2 => ?_) (fun h2 => ?_)
   ·exact Ev.eq (j2 false) (by simp [h2])
   ·refine Ev.eq (j2 _) ?_
    by_cases n0 : x.f2 = 0
    ·simp [h2, h3, n0]
    ·simp [h2, h3, n0]
 have j0 : ∀ d : Bool, Ev (fun k => impl_nodeForm.j0 k s.2.1 s.2.2.1 d x.f0 x.f1 x.f2 x.f3.f0 x.f3.f1 x.f3.f2) (!d && ((!(decide (x.f0 = 2) && (decide (x.f2 < 0) || decide (x.f2 > 999))) && (!(decide (x.f0 = 3) && (decide (x.f2 ≠ 0) && decide (x.f2 ≠ 1))) && !(decide (x.f0 ≠ 2) && (decide (x.f0 ≠ 3) && decide (x.f2 ≠ 0))))) && ((if s.2.1 = true then decide (x.f0 = 4) || isName x.f1 else decide (x.f1.toList = ([] : List UInt8))) && (if s.2.2.1 = true then vT x.f3 else zT x.f3)))) := by
  intro d
  refine Ev.up ?_
  simp only [impl_nodeForm.j0]
  refine Ev.cases (fun h => Ev.const (by simp [h])) (fun h => ?_)
  rw [Bool.eq_false_iff.2 h, Bool.not_false, Bool.true_and]
  refine Ev.cases (fun h2 => ?_) (fun h2 => ?_)
  ·refine Ev.cases (fun n0 => ?_) (fun n0 => ?_)
   ·exact Ev.eq (j1 true) (by simp [h2, n0])
   ·refine Ev.eq (j1 _) ?_
    by_cases n9 : x.f2 > 999
    ·simp [h2, n0, n9]
    ·simp [h2, n0, n9]
  ·exact Ev.eq (j1 false) (by simp [h2])
 simp only [impl_nodeForm.f, nodeI]
 have sh := impl_shape_ev x hs
 rw [hS] at sh
 refine Ev.bind sh ?_
 refine Ev.cases (fun h => ?_) (fun h => ?_)
 ·rw [h, Bool.true_and]
  refine Ev.cases (fun hm => ?_) (fun hm => ?_)
  ·rw [decide_eq_true hm, Bool.true_and]
   refine Ev.cases (fun h5 => ?_) (fun h5 => ?_)
   ·exact Ev.eq (j0 false) (by simp [h5])
   ·refine Ev.eq (j0 _) ?_
    by_cases hl : x.f4.length = 0
    ·simp [hl, h5]
    ·rw [decide_eq_false hl, decide_eq_false h5, decide_eq_true (by omega : (x.f4.length : Int) > 0)]; rfl
  ·rw [decide_eq_false hm]; exact Ev.eq (j0 true) (by simp)
 ·rw [Bool.eq_false_iff.2 h]; exact Ev.eq (j0 true) (by simp)
theorem nodeI_eq (a : Int) (nm : ByteArray) (n : Int) (t : S33) (l : List ByteArray) (m : Nat) : nodeI a nm n t l m (shp a (arO nm) (labB l) (l.length : Int)) = nodeB a nm n t l m := by
 have hz := zT_vT t
 have hi := isName_nil nm
 have h3 := arO_three nm
 unfold nodeI nodeB fldB
 generalize arO nm = ar at *
 generalize vT t = v at *
 generalize zT t = z at *
 generalize labB l = lb at *
 generalize isName nm = i at *
 generalize (l.length : Int) = ll at *
 generalize hd : decide (nm.toList = ([] : List UInt8)) = e at *
 have hi' : e = true → i = false := fun h => hi (of_decide_eq_true (hd.trans h))
 clear hi hd
 generalize hl0 : decide (l.length = 0) = l0 at *
 clear hl0
 have hm0 : (0 : Int) ≤ (m : Int) := by omega
 generalize (m : Int) = mm at *
 rcases kinds a with rfl | rfl | rfl | rfl | rfl | rfl | rfl | rfl | rfl | rfl | rfl | rfl | rfl | rfl | rfl | rfl | ⟨h1, h2, h3', h4, h5, h6, h7, h8, h9, h10, h11, h12, h13, h14, h15, h16⟩
 all_goals (simp only [shp, aryTe, nmd, typd]; rw [Bool.eq_iff_iff]; cases v <;> cases z <;> cases i <;> cases e <;> simp_all <;> (first | omega | (cases l0 <;> cases lb <;> simp <;> omega)))
theorem impl_termForm_ev : ∀ x : S36, SmTerm x → tyTe x ≤ 1048577 → Ev (fun k => impl_termForm.f k x.f0 x.f1 x.f2 x.f3.f0 x.f3.f1 x.f3.f2 x.f4 x.f5) (formTe x) := by
 refine indTermI fun x ih hs ht => ?_
 rw [tyTe_eq] at ht
 have ht2 := (tyTeS_le x.f5 1048577).1 (by omega)
 rw [formTe_eq, formTeS_all, Bool.and_comm]
 refine Ev.up ?_
 simp only [impl_termForm.f]
 have hN := impl_nodeForm_ev x hs (by omega)
 rw [nodeI_eq] at hN
 refine Ev.bind hN ?_
 refine Ev.cases (fun g => ?_) (fun g => ?_)
 ·rw [g, Bool.true_and]
  refine Ev.eq (all_ev x.f5 z36 formTe true (fun k i => impl_termForm.l0 k (x.f5.length : Int) (i : Int) x.f5) (fun k i => impl_termForm.f k (rd_T36 x.f5 (i : Int)).f0 (rd_T36 x.f5 (i : Int)).f1 (rd_T36 x.f5 (i : Int)).f2 (rd_T36 x.f5 (i : Int)).f3.f0 (rd_T36 x.f5 (i : Int)).f3.f1 (rd_T36 x.f5 (i : Int)).f3.f2 (rd_T36 x.f5 (i : Int)).f4 (rd_T36 x.f5 (i : Int)).f5) (fun k i hi => ?_) ?_ (fun i hi => ih (x.f5.getD i z36) (mem_getD x.f5 z36 i hi) (hs.p5.2 _ (mem_getD x.f5 z36 i hi)) (ht2 _ (mem_getD x.f5 z36 i hi)))) (Bool.and_true _)
  ·simp only [impl_termForm.l0]
   rw [if_pos (by omega), if_pos (by omega), if_pos (by omega), w1' hi hs.p5.1]
  ·refine Ev.up ?_
   simp only [impl_termForm.l0]
   exact Ev.neg (by omega) (Ev.now _)
 ·rw [Bool.eq_false_iff.2 g]; exact Ev.now _

end Go.Proofs.Ytppgalehaiagaaa.Px
end
section
namespace Go.Proofs.Ytppgalehaiagaaa.Px
open Go.RowKit Go.Proofs.YtppgalehaiagaaaW.PrintWords Go.Proofs.YtppgalehaiagaaaW.PrintLast Go.Proofs.Ytppgalehaiagaaa.Pl Go.Proofs.Ytppgalehaiagaaa.Ext
set_option linter.unusedVariables false
set_option linter.unusedSimpArgs false
theorem impl_sizeOf_ev : ∀ x : S36, SmTerm x → ndTerm x ≤ 1048577 → Ev (fun k => impl_sizeOf.f k x.f0 x.f1 x.f2 x.f3.f0 x.f3.f1 x.f3.f2 x.f4 x.f5) (ndTerm x : Int) := by
  refine indTermI fun x ih hs hn => ?_
  refine Ev.up ?_
  simp only [impl_sizeOf.f]
  rw [ndTerm_eq] at hn ⊢
  have hw := fold_loop x.f5.length (fun k i => impl_sizeOf.f k (rd_T36 x.f5 (i : Int)).f0 (rd_T36 x.f5 (i : Int)).f1 (rd_T36 x.f5 (i : Int)).f2 (rd_T36 x.f5 (i : Int)).f3.f0 (rd_T36 x.f5 (i : Int)).f3.f1 (rd_T36 x.f5 (i : Int)).f3.f2 (rd_T36 x.f5 (i : Int)).f4 (rd_T36 x.f5 (i : Int)).f5) (fun k (s : Int) i => impl_sizeOf.l0 k s (x.f5.length : Int) (i : Int) x.f5) (fun s t => wrap64 (s + t)) (fun i => (ndTerm (x.f5.getD i z36) : Int)) (fun s => s)
    (fun k s i hi => by
      simp only [impl_sizeOf.l0]
      rw [if_pos (by omega), if_pos (by omega), if_pos (by omega), w1' hi hs.p5.1])
    (fun k s => by simp only [impl_sizeOf.l0]; rw [if_neg (by omega)])
    (fun i hi => ih (x.f5.getD i z36) (mem_getD x.f5 z36 i hi) (hs.p5.2 _ (mem_getD x.f5 z36 i hi)) (by have := sum_le_of_mem ndTerm (mem_getD x.f5 z36 i hi); omega)) x.f5.length 0 1 (by omega)
  refine Ev.eq hw ?_
  have h1 := foldl_range (fun (s : Int) (y : S36) => wrap64 (s + (ndTerm y : Int))) z36 x.f5 1
  have h2 := fold_wrap ndTerm x.f5 1 (by omega)
  exact h1.trans h2
theorem spec_l7Left_ev : ∀ x : S36, SmTerm x → ∀ n : Int, 0 ≤ n → n ≤ 1048577 → ∃ r, Ev (fun k => spec_l7Left.f k x.f0 x.f1 x.f2 x.f3.f0 x.f3.f1 x.f3.f2 x.f4 x.f5 n) r ∧ ((ndTerm x : Int) ≤ n → r = n - ndTerm x) ∧ (n < ndTerm x → r < 0) ∧ r ≤ 1048577 := by
  refine indTermI fun x ih hs n hn hn2 => ?_
  rw [ndTerm_eq]
  have loop : ∀ m i s, i + m = x.f5.length → s ≤ 1048577 → ∃ r, Ev (fun k => spec_l7Left.l0 k s (i : Int) x.f0 x.f1 x.f2 x.f3.f0 x.f3.f1 x.f3.f2 x.f4 x.f5) r ∧ (0 ≤ s → (((((x.f5.drop i).map ndTerm).sum : Nat) : Int) ≤ s → r = s - (((x.f5.drop i).map ndTerm).sum : Nat)) ∧ (s < (((x.f5.drop i).map ndTerm).sum : Nat) → r < 0)) ∧ (s < 0 → r < 0) ∧ r ≤ 1048577 := by
    intro m
    induction m with
    | zero =>
      intro i s hi hs1
      refine ⟨s, Ev.up ?_, fun h => ?_, id, hs1⟩
      · simp only [spec_l7Left.l0]; exact Ev.neg (by omega) (Ev.now _)
      · rw [List.drop_of_length_le (by omega)]; simp <;> omega
    | succ m ihm =>
      intro i s hi hs1
      have hlt : i < x.f5.length := by omega
      have e : x.f5.getD i z36 = x.f5[i] := by simp [List.getD_eq_getElem?_getD, hlt]
      by_cases h0 : 0 ≤ s
      · obtain ⟨r, h1, h2, h3, h4⟩ := ih (x.f5.getD i z36) (mem_getD x.f5 z36 i hlt) (hs.p5.2 _ (mem_getD x.f5 z36 i hlt)) s h0 hs1
        obtain ⟨u, g1, g2, g3, g4⟩ := ihm (i + 1) r (by omega) h4
        refine ⟨u, Ev.up ?_, fun _ => ?_, fun h => by omega, g4⟩
        · simp only [spec_l7Left.l0, w1' hlt hs.p5.1]
          exact Ev.pos (by omega) (Ev.pos h0 (Ev.pos (by omega) (Ev.bind h1 g1)))
        · rw [List.drop_eq_getElem_cons hlt, List.map_cons, List.sum_cons, ← e]
          by_cases hc : (ndTerm (x.f5.getD i z36) : Int) ≤ s
          · have := h2 hc
            have := g2 (by omega)
            omega
          · have := h3 (by omega)
            have := g3 (by omega)
            omega
      · refine ⟨s, Ev.up ?_, fun h => absurd h h0, id, hs1⟩
        simp only [spec_l7Left.l0]
        exact Ev.pos (by omega) (Ev.neg (by omega) (Ev.now _))
  obtain ⟨r, h1, h2, h3, h4⟩ := loop x.f5.length 0 (n - 1) (by omega) (by omega)
  refine ⟨r, Ev.up ?_, ?_, ?_, h4⟩
  · simp only [spec_l7Left.f]
    rw [w64 (a := n - 1) (by omega) (by omega)]
    exact h1
  · intro h; have := h2 (by omega); simp at this; omega
  · intro h
    by_cases h0 : 0 ≤ n - 1
    · have := h2 h0; simp at this; omega
    · exact h3 (by omega)
theorem IsValidTerm_same (x : S36) (hs : SmTerm x) (hn : ndTerm x ≤ 1048577) (ht : tyTe x ≤ 1048577) : Same (fun k => spec_IsValidTerm.f k x.f0 x.f1 x.f2 x.f3.f0 x.f3.f1 x.f3.f2 x.f4 x.f5) (fun k => impl_IsValidTerm.f k x.f0 x.f1 x.f2 x.f3.f0 x.f3.f1 x.f3.f2 x.f4 x.f5) := by
  obtain ⟨r, h1, h2, h3, _⟩ := spec_l7Left_ev x hs 60 (by decide) (by decide)
  simp only [spec_IsValidTerm.f, impl_IsValidTerm.f]
  refine Same.bindL h1 (Same.bindR (impl_sizeOf_ev x hs hn) ?_)
  by_cases hc : ndTerm x ≤ 60
  · have := h2 (by omega)
    refine Same.pos (by omega) (by omega) (Same.bind (DepthOfTerm_same_ x hs) (fun t _ _ => Same.ite Iff.rfl (fun _ => ?_) (fun _ => Same.ret rfl)))
    exact ⟨formTe x, Ev.bind (spec_l7Form_ev x hs ht) (Ev.now _), Ev.bind (impl_termForm_ev x hs ht) (Ev.now _)⟩
  · have := h3 (by omega)
    exact Same.neg (by omega) (by omega) (Same.ret rfl)

end Go.Proofs.Ytppgalehaiagaaa.Px
end
section
namespace Go.Proofs.Ytppgalehaiagaaa.Pure
open Go.RowKit Go.Proofs.Ytppgalehaiagaaa.Px Go.Proofs.YtppgalehaiagaaaW.PrintWords Go.Proofs.YtppgalehaiagaaaW.PrintLast Go.Proofs.Ytppgalehaiagaaa.Pl
set_option linter.unusedVariables false
set_option linter.unusedSimpArgs false
theorem FnExactIsValidTerm_all (x0 : S28) (hW0 : W28 x0) : Ev (fun k => laws_FnExactIsValidTerm.f k x0.f0 x0.f1 x0.f2 x0.f3.f0 x0.f3.f1 x0.f3.f2 x0.f4 x0.f5) true := by
  simp only [laws_FnExactIsValidTerm.f]
  have hb0 : (0 : Int) ≤ (1048576 : Int) ∧ (1048576 : Int) ≤ 1048576 := ⟨by omega, by omega⟩
  refine Ev.bind (szTerm_ev x0 hW0 _ hb0.1 hb0.2) ?_
  by_cases hc0 : cut (wtTerm x0) (1048576 : Int) < 0
  · exact Ev.pos hc0 (Ev.now _)
  refine Ev.neg hc0 ?_
  have hw0 : (wtTerm x0 : Nat) ≤ 1048576 := by
    have := (not_congr (cut_neg (n := wtTerm x0))).1 hc0
    have h2 := hb0
    omega
  obtain ⟨r, h1, h2⟩ := IsValidTerm_same (cvTerm x0) (smTerm_of x0 hW0 hw0) (by have := ndTerm_cv x0; omega) (by have := tyTe_cv x0; omega)
  refine Ev.bind (toTerm_ev x0 hw0) ?_
  first | refine Ev.bind h1 ?_ | (obtain ⟨k1_, h1_⟩ := h1.rounds; refine Ev.fix h1_ ?_)
  refine Ev.bind (toTerm_ev x0 hw0) ?_
  first | refine Ev.bind h2 ?_ | (obtain ⟨k2_, h2_⟩ := h2.rounds; refine Ev.fix h2_ ?_)
  first | refine Ev.pos rfl ?_ | refine Ev.neg (by simp) ?_ | refine Ev.pos (by simp) ?_
  refine Ev.bind (toTerm_ev x0 hw0) ?_
  refine Ev.bind (eqTerm_ev _ (smTerm_of x0 hW0 hw0)) ?_
  refine Ev.pos rfl ?_
  exact Ev.now _
theorem FnExactIsValidTerm : laws_FnExactIsValidTerm.Pure := by
  intro v0_0 v0_1 v0_2 v0_3 v0_4 v0_5 v0_6 v0_7 h0
  exact (FnExactIsValidTerm_all ⟨v0_0, v0_1, v0_2, ⟨v0_3, v0_4, v0_5⟩, v0_6, v0_7⟩ h0).rounds
end Go.Proofs.Ytppgalehaiagaaa.Pure
end
section
namespace Go.Proofs.Ytppgalehaiagaaa.Rd
open Go.RowKit Go.Proofs.YtppgalehaiagaaaW.PrintWords
set_option linter.unusedVariables false
/-- What reads as_ data of type t, by at most n steps, is of kind d and meets q. -/
def Op (P : Program) (n : Nat) (t : TypeId) {α : Type} (d : Kd α) (q : α → Prop) : Prop :=
  ∀ (H : Type) (enc : TypeId × Value → H) (w : World) (base : Nat) (spare : Nat → Bool) (held : Bool) (fuel : Nat) (cs : List Value) (x : DataW H × List MemPlace),
    fuel ≤ n → DataW.trod enc P w base spare held fuel t cs = some x → ∃ y, d.K w y cs ∧ q y
theorem Op.imp {P : Program} {n : Nat} {t : TypeId} {α : Type} {d d' : Kd α} {q q' : α → Prop} (h1 : ∀ w y cs, d.K w y cs → d'.K w y cs) (h2 : ∀ y, q y → q' y) (h : Op P n t d q) : Op P n t d' q' := by
  intro H enc w base spare held fuel cs x hf hx
  obtain ⟨y, hy, hq⟩ := h H enc w base spare held fuel cs x hf hx
  exact ⟨y, h1 _ _ _ hy, h2 _ hq⟩
theorem Op.iso {P : Program} {n : Nat} {t : TypeId} {α β : Type} {d : Kd α} {q : α → Prop} {f : β → α} (g : α → β) (hg : ∀ y, f (g y) = y) (h : Op P n t d q) : Op P n t (Kd.iso d f) (fun x => q (f x)) := by
  intro H enc w base spare held fuel cs x hf hx
  obtain ⟨y, hy, hq⟩ := h H enc w base spare held fuel cs x hf hx
  refine ⟨g y, ?_, ?_⟩
  · show d.K w (f (g y)) cs
    rw [hg]; exact hy
  · show q (f (g y))
    rw [hg]; exact hq
theorem Op.int {P : Program} {n : Nat} {t : TypeId} {k : IntKind} (ht : P.underlying t = some (.int k)) : Op P n t (Kd.int k) (fun x => (Lit.int k x).wf = true) := by
  intro H enc w base spare held fuel cs x hf hx
  obtain ⟨m, rfl, rfl, hw⟩ := DataW.trod_int ht hx
  exact ⟨m, rfl, hw⟩
theorem Op.bool {P : Program} {n : Nat} {t : TypeId} (ht : P.underlying t = some .bool) : Op P n t Kd.bool (fun _ => True) := by
  intro H enc w base spare held fuel cs x hf hx
  obtain ⟨m, rfl, rfl⟩ := DataW.trod_bool ht hx
  exact ⟨m, rfl, trivial⟩
theorem trod_string' {H : Type} {enc : TypeId × Value → H} {P : Program} {w : World} {base : Nat} {spare : Nat → Bool} {held : Bool} {fuel : Nat} {t : TypeId} {cs : List Value} {x : DataW H × List MemPlace}
    (ht : P.underlying t = some .string) (h : DataW.trod enc P w base spare held fuel t cs = some x) : ∃ s, cs = [.string s] ∧ s.size ≤ maxLen := by
  cases fuel with
  | zero => simp [DataW.trod] at h
  | succ n =>
    unfold DataW.trod at h
    rw [ht] at h
    split at h <;> simp_all
theorem Op.string {P : Program} {n : Nat} {t : TypeId} (ht : P.underlying t = some .string) : Op P n t Kd.string (fun s => s.size ≤ maxLen) := by
  intro H enc w base spare held fuel cs x hf hx
  obtain ⟨m, rfl, hm⟩ := trod_string' ht hx
  exact ⟨m, rfl, hm⟩
theorem add_add (a : Addr) (i j : Nat) : (a.add i).add j = a.add (i + j) := by
  unfold Addr.add
  by_cases h1 : i = 0 <;> by_cases h2 : j = 0 <;> simp [h1, h2, Nat.add_assoc]
theorem choose_list {α : Type} {p : Nat → α → Prop} (n : Nat) (h : ∀ i, i < n → ∃ y, p i y) : ∃ ys : List α, ys.length = n ∧ ∀ i y, ys[i]? = some y → p i y := by
  induction n with
  | zero => exact ⟨[], rfl, fun i y hy => by simp at hy⟩
  | succ n ih =>
    obtain ⟨ys, hl, hy⟩ := ih (fun i hi => h i (by omega))
    obtain ⟨z, hz⟩ := h n (by omega)
    refine ⟨ys ++ [z], by simp [hl], fun i y hi => ?_⟩
    by_cases hlt : i < n
    · rw [List.getElem?_append_left (by omega)] at hi
      exact hy i y hi
    · by_cases he : i = n
      · subst he
        rw [List.getElem?_append_right (by omega)] at hi
        simp [hl] at hi
        subst hi
        exact hz
      · rw [List.getElem?_eq_none (by simp; omega)] at hi
        cases hi
theorem Op.slice {P : Program} {n : Nat} {t e : TypeId} {α : Type} {d : Kd α} {q : α → Prop} (ht : P.underlying t = some (.slice e)) (hsz : P.cellsOf e = d.sz) (h : ∀ k, k < n → Op P k e d q) :
    Op P n t (Kd.slice e d) (fun xs => xs.length ≤ maxLen ∧ ∀ y ∈ xs, q y) := by
  intro H enc w base spare held fuel cs x hf hx
  rcases DataW.trod_slice ht hx with ⟨rfl, _⟩ | ⟨a, len, cap, elems, rest, m, hm, rfl, _, hb, hl, hc, hlen, hel, _, _⟩
  · exact ⟨[], ⟨none, 0, rfl, Nat.le_refl _, ⟨rfl, by simp, fun hp => absurd hp (by simp)⟩⟩, by simp, fun y hy => by simp at hy⟩
  · have hone : ∀ i, i < len → ∃ y, (∃ c, c.length = d.sz ∧ d.K w y c ∧ ∀ j u, c[j]? = some u → w.cell? (a.add (i * d.sz + j)) = some u) ∧ q y := by
      intro i hi
      have h1 := hel i hi
      rw [List.getElem?_eq_getElem (by omega)] at h1
      obtain ⟨c, hc1, hc2⟩ := Option.bind_eq_some_iff.1 h1
      obtain ⟨y, hy, hq⟩ := h m (by omega) H enc w base spare held m c _ (Nat.le_refl _) hc2
      obtain ⟨_, hcl, hcells⟩ := World.cells?_some hc1
      refine ⟨y, ⟨c, by omega, hy, fun j u hu => ?_⟩, hq⟩
      have hj : j < P.cellsOf e := by
        rw [← hcl]
        exact (List.getElem?_eq_some_iff.1 hu).1
      have := hcells j hj
      rw [add_add, hsz] at this
      rw [this, hu]
    obtain ⟨ys, hyl, hys⟩ := choose_list len hone
    have hmx : len ≤ 9223372036854775807 := by
      have : cap ≤ 9223372036854775807 := hc
      omega
    refine ⟨ys, ⟨some a, cap, by rw [hyl], by omega, ⟨rfl, by omega, fun _ => ⟨a, rfl, fun j p hj => (hys j p hj).1⟩⟩⟩, by rw [hyl]; exact hmx, fun y hy => ?_⟩
    obtain ⟨i, hi, rfl⟩ := List.getElem_of_mem hy
    exact (hys i _ (List.getElem?_eq_getElem hi)).2
/-- Fields, from an offset on. -/
def OpF (P : Program) (n : Nat) (fs : List Field) (off : Nat) {α : Type} (d : Kd α) (q : α → Prop) : Prop :=
  ∀ (H : Type) (enc : TypeId × Value → H) (w : World) (base : Nat) (spare : Nat → Bool) (held : Bool) (fuel : Nat) (cs : List Value), fuel ≤ n →
    (∀ f ∈ fs, ∃ x, DataW.trod enc P w base spare held fuel f.type ((cs.drop f.offset).take (P.cellsOf f.type)) = some x) → cs.length = off + d.sz → ∃ y, d.K w y (cs.drop off) ∧ q y
theorem OpF.one {P : Program} {n : Nat} {f : Field} {off : Nat} {α : Type} {d : Kd α} {q : α → Prop} (ho : f.offset = off) (hsz : P.cellsOf f.type = d.sz) (h : Op P n f.type d q) : OpF P n [f] off d q := by
  intro H enc w base spare held fuel cs hf hx hl
  obtain ⟨x, hx⟩ := hx f (List.mem_singleton.2 rfl)
  rw [ho, hsz, List.take_of_length_le (by rw [List.length_drop]; omega)] at hx
  exact h H enc w base spare held fuel _ x hf hx
theorem OpF.cons {P : Program} {n : Nat} {f : Field} {fs : List Field} {off : Nat} {α β : Type} {a : Kd α} {b : Kd β} {qa : α → Prop} {qb : β → Prop} (ho : f.offset = off) (hsz : P.cellsOf f.type = a.sz) (h : Op P n f.type a qa) (hr : OpF P n fs (off + a.sz) b qb) :
    OpF P n (f :: fs) off (Kd.pair a b) (fun y => qa y.1 ∧ qb y.2) := by
  intro H enc w base spare held fuel cs hf hx hl
  have hl' : cs.length = off + (a.sz + b.sz) := hl
  obtain ⟨x, h1⟩ := hx f (List.mem_cons_self ..)
  rw [ho, hsz] at h1
  obtain ⟨y, hy, hq⟩ := h H enc w base spare held fuel _ x hf h1
  obtain ⟨z, hz, hq2⟩ := hr H enc w base spare held fuel cs hf (fun g hg => hx g (List.mem_cons_of_mem _ hg)) (by omega)
  refine ⟨(y, z), ⟨_, _, ?_, hy, hz⟩, hq, hq2⟩
  rw [← List.drop_drop, List.take_append_drop]
theorem Op.struct {P : Program} {n : Nat} {t : TypeId} {fs : Array Field} {α : Type} {d : Kd α} {q : α → Prop} (ht : P.underlying t = some (.struct fs)) (hsz : P.cellsOf t = d.sz) (h : ∀ k, k < n → OpF P k fs.toList 0 d q) : Op P n t d q := by
  intro H enc w base spare held fuel cs x hf hx
  obtain ⟨xs, m, hm, _, hl, hxl, hfs⟩ := DataW.trod_struct ht hx
  have hr := h m (by omega) H enc w base spare held m cs (Nat.le_refl _) (fun f hfm => ?_) (by omega)
  · simpa using hr
  · obtain ⟨i, hi, rfl⟩ := List.getElem_of_mem hfm
    have hi' : i < fs.size := by simpa using hi
    have h2 := hfs i _ (Array.getElem?_eq_getElem hi')
    rw [List.getElem?_eq_getElem (by omega)] at h2
    exact ⟨_, by simpa using h2⟩
/-- The same at whatever fuel. -/
theorem Op.open_ {P : Program} {t : TypeId} {α : Type} {d : Kd α} {q : α → Prop} (h : ∀ n, Op P n t d q) {H : Type} {enc : TypeId × Value → H} {w : World} {base : Nat} {spare : Nat → Bool} {held : Bool} {v : Value} {x : DataW H} {ps : List MemPlace}
    (ht : DataW.Trod enc P w base spare held t v x ps) : ∃ y, d.K w y v.cells.toList ∧ q y := by
  obtain ⟨fuel, hf⟩ := ht
  exact h fuel H enc w base spare held fuel _ _ (Nat.le_refl _) hf
end Go.Proofs.Ytppgalehaiagaaa.Rd
end
section
namespace Go.Proofs.Ytppgalehaiagaaa.Px
open Go.RowKit Go.Proofs.Ytppgalehaiagaaa.Ext Go.Proofs.YtppgalehaiagaaaW.PrintWords Go.Proofs.YtppgalehaiagaaaW.PrintLast Go.Proofs.YtppgalehaiagaaaW.PrintMore Go.Proofs.Ytppgalehaiagaaa
set_option linter.unusedVariables false
set_option linter.unusedSimpArgs false

theorem fold25 : ∀ (w : World) (x : S25) (cs : List Value), (F25 k25).K w x cs → k25.K w x cs := by
  intro w x cs h
  obtain ⟨_, _, rfl, rfl, ⟨_, _, rfl, ⟨A1, c1, rfl, l1, g1⟩, ⟨A2, c2, rfl, l2, g2⟩⟩⟩ := h
  exact k25_mk w x l1 g1 l2 g2
theorem op25 : ∀ n, Rd.Op Try.prog n 25 k25 W25 := by
  intro n
  induction n using Nat.strongRecOn with
  | _ n ih =>
  exact Rd.Op.imp (d := F25 k25) fold25 (fun x h => W25.mk h.1 h.2.1 h.2.2.1 h.2.2.2) (Rd.Op.iso (g := fun p => ⟨p.1, p.2.1, p.2.2⟩) (fun _ => rfl) (Rd.Op.struct Try.underlying25 (by kernel_rfl) (fun j0 hj0 => (Rd.OpF.cons rfl (by kernel_rfl) (Rd.Op.int Try.underlying3) (Rd.OpF.cons rfl (by kernel_rfl) (Rd.Op.slice Try.underlying22 (by kernel_rfl) (fun j1 hj1 => (Rd.Op.string Try.underlying9))) (Rd.OpF.one rfl (by kernel_rfl) (Rd.Op.slice Try.underlying23 (by kernel_rfl) (fun j1 hj1 => ih j1 (by omega)))))))))
theorem fold28 : ∀ (w : World) (x : S28) (cs : List Value), (F28 k28).K w x cs → k28.K w x cs := by
  intro w x cs h
  obtain ⟨_, _, rfl, rfl, ⟨_, _, rfl, rfl, ⟨_, _, rfl, rfl, ⟨_, _, rfl, s3, ⟨_, _, rfl, ⟨A4, c4, rfl, l4, g4⟩, ⟨A5, c5, rfl, l5, g5⟩⟩⟩⟩⟩⟩ := h
  obtain ⟨A3_1, c3_1, A3_2, c3_2, rfl, l3_1, g3_1, l3_2, g3_2⟩ := k25_open s3
  exact k28_mk w x l3_1 g3_1 l3_2 g3_2 l4 g4 l5 g5
theorem op28 : ∀ n, Rd.Op Try.prog n 28 k28 W28 := by
  intro n
  induction n using Nat.strongRecOn with
  | _ n ih =>
  exact Rd.Op.imp (d := F28 k28) fold28 (fun x h => W28.mk h.1 h.2.1 h.2.2.1 h.2.2.2.1 h.2.2.2.2.1 h.2.2.2.2.2.1 h.2.2.2.2.2.2) (Rd.Op.iso (g := fun p => ⟨p.1, p.2.1, p.2.2.1, p.2.2.2.1, p.2.2.2.2.1, p.2.2.2.2.2⟩) (fun _ => rfl) (Rd.Op.struct Try.underlying28 (by kernel_rfl) (fun j0 hj0 => (Rd.OpF.cons rfl (by kernel_rfl) (Rd.Op.int Try.underlying3) (Rd.OpF.cons rfl (by kernel_rfl) (Rd.Op.string Try.underlying9) (Rd.OpF.cons rfl (by kernel_rfl) (Rd.Op.int Try.underlying3) (Rd.OpF.cons rfl (by kernel_rfl) (op25 _) (Rd.OpF.cons rfl (by kernel_rfl) (Rd.Op.slice Try.underlying22 (by kernel_rfl) (fun j1 hj1 => (Rd.Op.string Try.underlying9))) (Rd.OpF.one rfl (by kernel_rfl) (Rd.Op.slice Try.underlying26 (by kernel_rfl) (fun j1 hj1 => ih j1 (by omega))))))))))))
end Go.Proofs.Ytppgalehaiagaaa.Px
end
