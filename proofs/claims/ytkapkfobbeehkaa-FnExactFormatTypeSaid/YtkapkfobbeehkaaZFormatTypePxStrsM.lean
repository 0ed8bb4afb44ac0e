/- Lists of names: IndexOf and AreAscending of the program and of the reference come to the same. No condition beyond the sizes named. -/
import Derived.Test.YtkapkfobbeehkaaZFormatTypePx1M
import Derived.Test.YtkapkfobbeehkaaZFormatTypePx6
import Derived.Test.YtkapkfobbeehkaaZFormatTypePx13M
import Derived.Test.YtkapkfobbeehkaaZFormatTypeWLastM
import Derived.Test.YtkapkfobbeehkaaZFormatTypePx3M
import Derived.Test.YtkapkfobbeehkaaZFormatTypePx7
import Derived.Test.YtkapkfobbeehkaaZFormatTypePx9M
import Derived.Test.YtkapkfobbeehkaaZFormatTypePx8
import Derived.Test.YtkapkfobbeehkaaZFormatTypePx5
import Derived.Test.YtkapkfobbeehkaaZFormatTypePx11M
import Derived.Test.YtkapkfobbeehkaaZFormatTypeWWords
import Derived.Deep.Slices
import Derived.ChangeArms
import Derived.DataReads
section
namespace Go.Proofs.Ytkapkfobbeehkaa.Px
open Go.RowKit Go.Proofs.YtkapkfobbeehkaaW.PrintWords Go.Proofs.YtkapkfobbeehkaaW.PrintLast Go.Proofs.Ytkapkfobbeehkaa.Pl Go.Proofs.Ytkapkfobbeehkaa.Ext
set_option linter.unusedVariables false
set_option linter.unusedSimpArgs false
/-- Are the names ascending, from an index on? -/
def asc (xs : List ByteArray) : Nat → Nat → Bool
  | _, 0 => true
  | i, m + 1 => Op.bytesLess (xs.getD (i - 1) ByteArray.empty).toList (xs.getD i ByteArray.empty).toList && asc xs (i + 1) m
theorem rdm (xs : List ByteArray) (i : Nat) (h : 1 ≤ i) (hi : i ≤ 1048576) : wrap64 ((i : Int) - 1) = ((i - 1 : Nat) : Int) := by unfold wrap64; omega
theorem spec_AreAscending_ev (xs : List ByteArray) (hx : xs.length ≤ 1048576) : Ev (fun k => spec_AreAscending.f k xs) (asc xs 1 (xs.length - 1)) := by
  suffices h : ∀ m i, 1 ≤ i → (i + m = xs.length ∨ m = 0 ∧ xs.length ≤ i) → i ≤ 1048576 → Ev (fun k => spec_AreAscending.l0 k xs (i : Int)) (asc xs i m) by
    exact h (xs.length - 1) 1 (by omega) (by omega) (by omega)
  intro m
  induction m with
  | zero =>
    intro i h1 hi hl
    refine Ev.up ?_
    simp only [spec_AreAscending.l0]
    exact Ev.neg (by omega) (Ev.now _)
  | succ m ih =>
    intro i h1 hi hl
    refine Ev.up ?_
    simp only [spec_AreAscending.l0]
    rw [rdm xs i h1 hl]
    refine Ev.pos (by omega) (Ev.pos (by omega) (Ev.pos (by omega) (Ev.pos (by omega) ?_)))
    simp only [rdOf_str, asc]
    by_cases hc : Op.bytesLess (xs.getD (i - 1) ByteArray.empty).toList (xs.getD i ByteArray.empty).toList = true
    · refine Ev.pos hc ?_
      rw [w1' (n := xs.length) (by omega) hx, hc, Bool.true_and]
      exact ih (i + 1) (by omega) (by omega) (by omega)
    · refine Ev.neg hc ?_
      rw [Bool.eq_false_iff.2 hc, Bool.false_and]
      exact Ev.now _
theorem impl_AreAscending_ev (xs : List ByteArray) (hx : xs.length ≤ 1048576) : Ev (fun k => impl_AreAscending.f k xs) (asc xs 1 (xs.length - 1)) := by
  suffices h : ∀ m i, 1 ≤ i → (i + m = xs.length ∨ m = 0 ∧ xs.length ≤ i) → i ≤ 1048576 → Ev (fun k => impl_AreAscending.l0 k xs (i : Int)) (asc xs i m) by
    exact h (xs.length - 1) 1 (by omega) (by omega) (by omega)
  intro m
  induction m with
  | zero =>
    intro i h1 hi hl
    refine Ev.up ?_
    simp only [impl_AreAscending.l0]
    exact Ev.neg (by omega) (Ev.now _)
  | succ m ih =>
    intro i h1 hi hl
    refine Ev.up ?_
    simp only [impl_AreAscending.l0]
    rw [rdm xs i h1 hl]
    refine Ev.pos (by omega) (Ev.pos (by omega) (Ev.pos (by omega) (Ev.pos (by omega) ?_)))
    simp only [rdOf_str, asc]
    by_cases hc : Op.bytesLess (xs.getD (i - 1) ByteArray.empty).toList (xs.getD i ByteArray.empty).toList = true
    · refine Ev.pos hc ?_
      rw [w1' (n := xs.length) (by omega) hx, hc, Bool.true_and]
      exact ih (i + 1) (by omega) (by omega) (by omega)
    · refine Ev.neg hc ?_
      rw [Bool.eq_false_iff.2 hc, Bool.false_and]
      exact Ev.now _
end Go.Proofs.Ytkapkfobbeehkaa.Px
end
section
namespace Go.Proofs.Ytkapkfobbeehkaa.Px
open Go.RowKit Go.Proofs.YtkapkfobbeehkaaW.PrintWords Go.Proofs.YtkapkfobbeehkaaW.PrintLast Go.Proofs.Ytkapkfobbeehkaa.Pl Go.Proofs.Ytkapkfobbeehkaa.Ext
set_option linter.unusedVariables false
set_option linter.unusedSimpArgs false
/-- Can a list be that of a record's labels? -/
def labB (xs : List ByteArray) : Bool := xs.all isName && (decide (1 ≤ xs.length ∧ xs.length ≤ 4) && asc xs 1 (xs.length - 1))
theorem spec_l1In_eq (a b c : Int) : spec_l1In.f a b c = some (decide (b ≤ a ∧ a ≤ c)) := by
  unfold spec_l1In.f
  by_cases h : a ≥ b
  · rw [if_pos h]
    have h' : b ≤ a := h
    simp [h']
  · rw [if_neg h]
    have h' : ¬ b ≤ a := h
    simp [h']
theorem spec_l3Labels_ev (xs : List ByteArray) (hx : xs.length ≤ 1048576) (hy : ∀ y ∈ xs, y.size ≤ 1048576) : Ev (fun k => spec_l3Labels.f k xs) (labB xs) := by
  simp only [spec_l3Labels.f, labB]
  refine all_ev xs ByteArray.empty isName _ (fun k i => spec_l3Labels.l0 k xs (i : Int)) (fun k i => spec_IsName.f k (rdOf ByteArray.empty xs (i : Int))) (fun k i hi => ?_) ?_ (fun i hi => ?_)
  · simp only [spec_l3Labels.l0]
    rw [if_pos (by omega), if_pos (by omega), w1' hi hx]
  · refine Ev.up ?_
    simp only [spec_l3Labels.l0, spec_l1In_eq, Option.bind_some]
    refine Ev.neg (by omega) ?_
    refine Ev.cases (fun h => ?_) (fun h => ?_)
    · have h2 : (1 ≤ xs.length ∧ xs.length ≤ 4) := by simp at h; omega
      rw [decide_eq_true h2, Bool.true_and]
      exact Ev.bind (spec_AreAscending_ev xs hx) (Ev.now _)
    · have h2 : ¬ (1 ≤ xs.length ∧ xs.length ≤ 4) := by intro h3; apply h; simp; omega
      rw [decide_eq_false h2, Bool.false_and]
      exact Ev.now _
  · rw [rdOf_str]
    exact spec_IsName_ev _ (hy _ (mem_getD xs _ i hi))
theorem IndexFunc_labels (xs : List ByteArray) (hx : xs.length ≤ 1048576) (hy : ∀ y ∈ xs, y.size ≤ 1048576) : ∃ r : Int, Ev (fun k => slices_IndexFunc_string_of_labelsOk_1.l0 k xs (xs.length : Int) 0) r ∧ decide (r ≥ 0) = !(xs.all isName) := by
  suffices h : ∀ m i, i + m = xs.length → ∃ r : Int, Ev (fun k => slices_IndexFunc_string_of_labelsOk_1.l0 k xs (xs.length : Int) (i : Int)) r ∧ decide (r ≥ 0) = !((xs.drop i).all isName) from by simpa using h xs.length 0 (by omega)
  intro m
  induction m with
  | zero =>
    intro i hi
    refine ⟨-1, Ev.up ?_, by rw [List.drop_of_length_le (by omega)]; rfl⟩
    simp only [slices_IndexFunc_string_of_labelsOk_1.l0]
    exact Ev.neg (by omega) (Ev.now _)
  | succ m ih =>
    intro i hi
    have hlt : i < xs.length := by omega
    have e : xs.getD i ByteArray.empty = xs[i] := by simp [List.getD_eq_getElem?_getD, hlt]
    have hn : Ev (fun k => impl_labelsOk_1.f k (rdOf ByteArray.empty xs (i : Int))) (!(isName xs[i])) := by
      simp only [impl_labelsOk_1.f]
      rw [rdOf_str, e]
      exact Ev.bind (impl_IsName_ev _ (by rw [← e]; exact hy _ (mem_getD xs _ i hlt))) (Ev.now _)
    rw [List.drop_eq_getElem_cons hlt, List.all_cons]
    cases hp : isName xs[i]
    · refine ⟨(i : Int), Ev.up ?_, by simp⟩
      simp only [slices_IndexFunc_string_of_labelsOk_1.l0]
      rw [hp] at hn
      exact Ev.pos (by omega) (Ev.pos (by omega) (Ev.pos (by omega) (Ev.bind hn (Ev.pos (by simp) (Ev.now _)))))
    · obtain ⟨r, h1, h2⟩ := ih (i + 1) (by omega)
      refine ⟨r, Ev.up ?_, by rw [h2]; simp⟩
      simp only [slices_IndexFunc_string_of_labelsOk_1.l0, w1' hlt hx]
      rw [hp] at hn
      exact Ev.pos (by omega) (Ev.pos (by omega) (Ev.pos (by omega) (Ev.bind hn (Ev.neg (by simp) h1))))
theorem impl_labelsOk_ev (xs : List ByteArray) (hx : xs.length ≤ 1048576) (hy : ∀ y ∈ xs, y.size ≤ 1048576) : Ev (fun k => impl_labelsOk.f k xs) (labB xs) := by
  simp only [impl_labelsOk.f, labB, slices_ContainsFunc_string_of_labelsOk_1.f, slices_IndexFunc_string_of_labelsOk_1.f]
  by_cases h1 : xs.length < 1
  · refine Ev.pos (by omega) (Ev.const ?_)
    rw [decide_eq_false (by omega)]; simp
  refine Ev.neg (by omega) ?_
  by_cases h2 : xs.length > 4
  · refine Ev.pos (by omega) (Ev.const ?_)
    rw [decide_eq_false (by omega)]; simp
  refine Ev.neg (by omega) ?_
  rw [decide_eq_true (by omega), Bool.true_and]
  refine Ev.bind (impl_AreAscending_ev xs hx) ?_
  refine Ev.cases (fun h => ?_) (fun h => ?_)
  · obtain ⟨r, g1, g2⟩ := IndexFunc_labels xs hx hy
    refine Ev.bind (Ev.bind g1 (Ev.now _)) (Ev.const ?_)
    rw [g2, h]; simp
  · rw [Bool.eq_false_iff.2 h]
    exact Ev.const (by simp)

end Go.Proofs.Ytkapkfobbeehkaa.Px
end
section
namespace Go.Proofs.Ytkapkfobbeehkaa.Px
open Go.RowKit Go.Proofs.YtkapkfobbeehkaaW.PrintWords Go.Proofs.YtkapkfobbeehkaaW.PrintLast Go.Proofs.Ytkapkfobbeehkaa.Pl Go.Proofs.Ytkapkfobbeehkaa.Ext
set_option linter.unusedVariables false
set_option linter.unusedSimpArgs false
mutual
/-- Does a kind stand in a type? -/
def hasT (n : Int) : S35 → Bool
  | ⟨a, _, xs⟩ => hasTS n xs || a == n
def hasTS (n : Int) : List S35 → Bool
  | [] => false
  | x :: r => hasT n x || hasTS n r
end
mutual
/-- How deep is a type? -/
def depT : S35 → Nat
  | ⟨_, _, xs⟩ => depTS xs + 1
def depTS : List S35 → Nat
  | [] => 0
  | x :: r => max (depT x) (depTS r)
end
/-- How many arguments has a kind? -/
def wantT (a : Int) : Int := if a = 1 ∨ a = 2 then 0 else if a = 4 then 1 else if a = 5 then 2 else -1
/-- One node of a right type. -/
def topT (a : Int) (l : List ByteArray) (xs : List S35) : Bool :=
  if a = 3 then decide ((xs.length : Int) = l.length) && (labB l && !(hasTS 5 xs))
  else if a = 4 ∧ xs.length = 1 ∧ hasTS 5 xs = true then false
  else decide ((l.length : Int) = 0) && decide ((xs.length : Int) = wantT a)
mutual
def formT : S35 → Bool
  | ⟨a, l, xs⟩ => formTS xs && topT a l xs
def formTS : List S35 → Bool
  | [] => true
  | x :: r => formT x && formTS r
end
/-- One node, as_ the program looks at it. -/
def topI (plain : Bool) (deep : Int) (a : Int) (l : List ByteArray) (n : Nat) : Bool :=
  (decide (1 ≤ a ∧ a ≤ 5 ∧ deep ≤ 7) && decide ((n : Int) = imPut (imPut (imPut im0 4 1) 5 2) 3 (l.length : Int) a)) && (!(decide (a = 5) && plain) && (!(decide (a = 3) && !(labB l)) && (decide (a = 3) || decide (l.length = 0))))
mutual
def tfT (plain : Bool) (deep : Int) : S35 → Bool
  | ⟨a, l, xs⟩ => topI plain deep a l xs.length && tfTS (plain || (decide (a = 3) || decide (a = 4))) (deep + 1) xs
def tfTS (plain : Bool) (deep : Int) : List S35 → Bool
  | [] => true
  | x :: r => tfT plain deep x && tfTS plain deep r
end
theorem hasT_eq (n : Int) (x : S35) : hasT n x = (hasTS n x.f2 || x.f0 == n) := by cases x; simp only [hasT]
theorem depT_eq (x : S35) : depT x = depTS x.f2 + 1 := by cases x; simp only [depT]
theorem formT_eq (x : S35) : formT x = (formTS x.f2 && topT x.f0 x.f1 x.f2) := by cases x; simp only [formT]
theorem tfT_eq (p : Bool) (d : Int) (x : S35) : tfT p d x = (topI p d x.f0 x.f1 x.f2.length && tfTS (p || (decide (x.f0 = 3) || decide (x.f0 = 4))) (d + 1) x.f2) := by cases x; simp only [tfT]
theorem hasTS_any (n : Int) (xs : List S35) : hasTS n xs = xs.any (hasT n) := by
  induction xs with
  | nil => rfl
  | cons x r ih => simp [hasTS, ih]
theorem formTS_all (xs : List S35) : formTS xs = xs.all formT := by
  induction xs with
  | nil => rfl
  | cons x r ih => simp [formTS, ih]
theorem tfTS_all (p : Bool) (d : Int) (xs : List S35) : tfTS p d xs = xs.all (tfT p d) := by
  induction xs with
  | nil => rfl
  | cons x r ih => simp [tfTS, ih]
theorem depT_le (xs : List S35) (n : Nat) : depTS xs ≤ n ↔ ∀ y ∈ xs, depT y ≤ n := by
  induction xs with
  | nil => simp [depTS]
  | cons x r ih => simp [depTS, Nat.max_le, ih]
theorem depT_nd : ∀ x : S35, depT x ≤ ndType x := by
  refine indTypeI fun x ih => ?_
  rw [depT_eq, ndType_eq]
  have : depTS x.f2 ≤ (x.f2.map ndType).sum := (depT_le _ _).2 fun y hy => Nat.le_trans (ih y hy) (sum_le_of_mem ndType hy)
  omega
theorem many_eq (a : Int) (n : Nat) : imPut (imPut (imPut im0 4 1) 5 2) 3 (n : Int) a = if a = 3 then (n : Int) else if a = 5 then 2 else if a = 4 then 1 else 0 := by
  simp only [imPut, im0]
theorem tfT_iff : ∀ x : S35, ∀ p d, tfT p d x = true ↔ formT x = true ∧ (p = true → hasT 5 x = false) ∧ d + (depT x : Int) ≤ 8 := by
  refine indTypeI fun x ih p d => ?_
  rw [tfT_eq, formT_eq, hasT_eq, depT_eq]
  have hS : ∀ q, tfTS q (d + 1) x.f2 = true ↔ formTS x.f2 = true ∧ (q = true → hasTS 5 x.f2 = false) ∧ (x.f2 = [] ∨ d + (depTS x.f2 : Int) ≤ 7) := by
    intro q
    rw [tfTS_all, formTS_all, hasTS_any, List.all_eq_true, List.all_eq_true]
    constructor
    · intro h
      refine ⟨fun y hy => ((ih y hy q (d + 1)).1 (h y hy)).1, fun hq => ?_, ?_⟩
      · rw [Bool.eq_false_iff]
        intro hc
        obtain ⟨y, hy, h5⟩ := List.any_eq_true.1 hc
        rw [((ih y hy q (d + 1)).1 (h y hy)).2.1 hq] at h5
        exact absurd h5 (by decide)
      · by_cases he : x.f2 = []
        · exact Or.inl he
        refine Or.inr ?_
        have hb : ∀ y ∈ x.f2, (depT y : Int) ≤ 7 - d := fun y hy => by have := ((ih y hy q (d + 1)).1 (h y hy)).2.2; omega
        obtain ⟨y0, hy0⟩ := List.exists_mem_of_ne_nil _ he
        have h0 := hb y0 hy0
        have : depTS x.f2 ≤ (7 - d).toNat := (depT_le _ _).2 fun y hy => by have := hb y hy; omega
        omega
    · intro h y hy
      refine (ih y hy q (d + 1)).2 ⟨h.1 y hy, fun hq => ?_, ?_⟩
      · rw [Bool.eq_false_iff]
        intro hc
        have := h.2.1 hq
        rw [Bool.eq_false_iff] at this
        exact this (List.any_eq_true.2 ⟨y, hy, hc⟩)
      · rcases h.2.2 with he | hd
        · rw [he] at hy; cases hy
        have := (depT_le x.f2 (depTS x.f2)).1 (Nat.le_refl _) y hy
        omega
  rw [Bool.and_eq_true, hS]
  have hlen : x.f2 = [] ↔ x.f2.length = 0 := by cases x.f2 <;> simp
  have hdep : x.f2 = [] → depTS x.f2 = 0 := fun h => by rw [h]; rfl
  have hno : x.f2 = [] → hasTS 5 x.f2 = false := fun h => by rw [h]; rfl
  generalize x.f2 = xs at *
  generalize x.f0 = a at *
  generalize x.f1 = l at *
  simp only [topI, topT, many_eq, wantT]
  by_cases h3 : a = 3
  · subst h3
    simp only [if_true, Bool.and_eq_true, decide_eq_true_eq, Bool.or_eq_true, Bool.not_eq_true', Bool.and_eq_false_iff, decide_eq_false_iff_not, Bool.not_eq_false', Bool.or_eq_false_iff, beq_eq_false_iff_ne, true_or, or_true, true_implies, true_and, and_true, not_true_eq_false, false_or, or_false]
    constructor
    · rintro ⟨⟨⟨⟨_, _, h7⟩, hn⟩, _, hl⟩, hf, hh, hd⟩
      refine ⟨⟨hf, hn, hl, hh⟩, fun _ => ⟨hh, by decide⟩, ?_⟩
      rcases hd with he | hd
      · rw [hdep he]; omega
      · omega
    · rintro ⟨⟨hf, hn, hl, hh⟩, _, hd⟩
      refine ⟨⟨⟨⟨by decide, by decide, by omega⟩, hn⟩, Or.inl (by decide), hl⟩, hf, hh, Or.inr (by omega)⟩
  · by_cases h4 : a = 4
    · subst h4
      simp only [show ¬ ((4 : Int) = 3) by decide, show ¬ ((4 : Int) = 5) by decide, show ¬ ((4 : Int) = 1 ∨ (4 : Int) = 2) by decide, if_false, if_true, Bool.and_eq_true, decide_eq_true_eq, Bool.or_eq_true, Bool.not_eq_true', Bool.and_eq_false_iff, decide_eq_false_iff_not, Bool.not_eq_false', Bool.or_eq_false_iff, beq_eq_false_iff_ne, true_and, false_or, or_true, true_or, not_false_eq_true, and_true, true_implies]
      constructor
      · rintro ⟨⟨⟨⟨_, _, h7⟩, hn⟩, hl⟩, hf, hh, hd⟩
        have h1 : xs.length = 1 := by omega
        have hd' : d + (depTS xs : Int) ≤ 7 := by
          rcases hd with he | hd
          · rw [hlen] at he; omega
          · exact hd
        rw [if_neg (by rintro ⟨_, h⟩; rw [hh] at h; cases h)]
        simp [hf, hl, h1, hh]
        omega
      · rintro ⟨⟨hf, ht⟩, hp, hd⟩
        by_cases hc : xs.length = 1 ∧ hasTS 5 xs = true
        · rw [if_pos hc] at ht; cases ht
        rw [if_neg hc] at ht
        simp at ht
        have h1 : xs.length = 1 := by omega
        have hh : hasTS 5 xs = false := by
          rw [Bool.eq_false_iff]; exact fun h => hc ⟨h1, h⟩
        exact ⟨⟨⟨⟨by decide, by decide, by omega⟩, by omega⟩, by simp [ht.1]⟩, hf, hh, Or.inr (by omega)⟩
    · have e34 : (decide (a = 3) || decide (a = 4)) = false := by simp [h3, h4]
      simp only [h3, h4, if_false, false_and, Bool.and_eq_true, decide_eq_true_eq, Bool.or_eq_true, Bool.not_eq_true', Bool.and_eq_false_iff, decide_eq_false_iff_not, Bool.not_eq_false', Bool.or_eq_false_iff, beq_eq_false_iff_ne, true_or, false_or, true_and, or_false, not_false_eq_true]
      constructor
      · rintro ⟨⟨⟨⟨h1, h5, h7⟩, hn⟩, hp5, hl⟩, hf, hh, hd⟩
        have hl0 : l = [] := by simpa using hl
        have hd' : d + (depTS xs : Int) ≤ 7 := by
          rcases hd with he | hd
          · rw [hdep he]; omega
          · exact hd
        refine ⟨⟨hf, ?_⟩, fun hp => ⟨hh hp, ?_⟩, by omega⟩
        · rw [hl0]
          simp
          split <;> (split at hn <;> omega)
        · intro h
          rcases hp5 with h' | h'
          · exact h' h
          · rw [h'] at hp; cases hp
      · rintro ⟨⟨hf, ht⟩, hp, hd⟩
        simp at ht
        have hl0 : l = [] := ht.1
        have hw := ht.2
        refine ⟨⟨⟨⟨?_, ?_, by omega⟩, ?_⟩, ?_, by simp [hl0]⟩, hf, fun h => (hp h).1, Or.inr (by omega)⟩
        · split at hw <;> (try split at hw) <;> omega
        · split at hw <;> (try split at hw) <;> omega
        · split at hw <;> (try split at hw) <;> (try split) <;> omega
        · by_cases h5 : a = 5
          · refine Or.inr ?_
            rw [Bool.eq_false_iff]
            exact fun h => (hp h).2 h5
          · exact Or.inl h5
theorem spec_l3Has_ev (n : Int) : ∀ x : S35, SmType x → Ev (fun k => spec_l3Has.f k x.f0 x.f1 x.f2 n) (hasT n x) := by
  refine indTypeI fun x ih hs => ?_
  rw [hasT_eq, hasTS_any]
  refine Ev.up ?_
  simp only [spec_l3Has.f]
  refine any_ev x.f2 z35 (hasT n) _ (fun k i => spec_l3Has.l0 k n (i : Int) x.f0 x.f1 x.f2) (fun k i => spec_l3Has.f k (rd_T35 x.f2 (i : Int)).f0 (rd_T35 x.f2 (i : Int)).f1 (rd_T35 x.f2 (i : Int)).f2 n) (fun k i hi => ?_) ?_ (fun i hi => ih (x.f2.getD i z35) (mem_getD x.f2 z35 i hi) (hs.p2.2 _ (mem_getD x.f2 z35 i hi)))
  · simp only [spec_l3Has.l0]
    rw [if_pos (by omega), if_pos (by omega), w1' hi hs.p2.1]
  · refine Ev.up ?_
    simp only [spec_l3Has.l0]
    exact Ev.neg (by omega) (Ev.now _)

end Go.Proofs.Ytkapkfobbeehkaa.Px
end
section
namespace Go.Proofs.Ytkapkfobbeehkaa.Px
open Go.RowKit Go.Proofs.YtkapkfobbeehkaaW.PrintWords Go.Proofs.YtkapkfobbeehkaaW.PrintLast Go.Proofs.Ytkapkfobbeehkaa.Pl Go.Proofs.Ytkapkfobbeehkaa.Ext
set_option linter.unusedVariables false
set_option linter.unusedSimpArgs false
theorem spec_l1Max_eq (a b : Int) : spec_l1Max.f a b = some (mx a b) := by
  rw [mx_eq]; unfold spec_l1Max.f; split <;> rfl

end Go.Proofs.Ytkapkfobbeehkaa.Px
end
section
namespace Go.Proofs.Ytkapkfobbeehkaa.Px
open Go.RowKit Go.Proofs.YtkapkfobbeehkaaW.PrintWords Go.Proofs.YtkapkfobbeehkaaW.PrintLast Go.Proofs.Ytkapkfobbeehkaa.Pl Go.Proofs.Ytkapkfobbeehkaa.Ext
set_option linter.unusedVariables false
set_option linter.unusedSimpArgs false
theorem impl_SizeOfType_ev : ∀ x : S35, SmType x → ndType x ≤ 1048577 → Ev (fun k => impl_SizeOfType.f k x.f0 x.f1 x.f2) (ndType x : Int) := by
  refine indTypeI fun x ih hs hn => ?_
  refine Ev.up ?_
  simp only [impl_SizeOfType.f]
  rw [ndType_eq] at hn ⊢
  refine Ev.eq (fold_loop x.f2.length (fun k i => impl_SizeOfType.f k (rd_T35 x.f2 (i : Int)).f0 (rd_T35 x.f2 (i : Int)).f1 (rd_T35 x.f2 (i : Int)).f2) (fun k s i => impl_SizeOfType.l0 k s x.f2 (x.f2.length : Int) (i : Int)) (fun s t => wrap64 (s + t)) (fun i => (ndType (x.f2.getD i z35) : Int)) id
    (fun k s i hi => by simp only [impl_SizeOfType.l0]; rw [if_pos (by omega), if_pos (by omega), if_pos (by omega), w1' hi hs.p2.1])
    (fun k s => by simp only [impl_SizeOfType.l0]; rw [if_neg (by omega)]; rfl)
    (fun i hi => ih (x.f2.getD i z35) (mem_getD x.f2 z35 i hi) (hs.p2.2 _ (mem_getD x.f2 z35 i hi)) (by have := sum_le_of_mem ndType (mem_getD x.f2 z35 i hi); omega)) x.f2.length 0 1 (by omega)) ?_
  rw [foldl_range (fun (s : Int) y => wrap64 (s + (ndType y : Int))) z35 x.f2 1]
  exact fold_wrap ndType x.f2 1 (by omega)

end Go.Proofs.Ytkapkfobbeehkaa.Px
end
section
namespace Go.Proofs.Ytkapkfobbeehkaa.Px
open Go.RowKit Go.Proofs.YtkapkfobbeehkaaW.PrintWords Go.Proofs.YtkapkfobbeehkaaW.PrintLast Go.Proofs.Ytkapkfobbeehkaa.Pl Go.Proofs.Ytkapkfobbeehkaa.Ext
set_option linter.unusedVariables false
set_option linter.unusedSimpArgs false
theorem spec_l3Form_ev : ∀ x : S35, SmType x → Ev (fun k => spec_l3Form.f k x.f0 x.f1 x.f2) (formT x) := by
  refine indTypeI fun x ih hs => ?_
  have j2 : ∀ b : Bool, (b = true ↔ (x.f0 = 1 ∨ x.f0 = 2)) → Ev (fun k => spec_l3Form.j2 k (-1) x.f0 b x.f0 x.f1 x.f2) (decide ((x.f1.length : Int) = 0) && decide ((x.f2.length : Int) = wantT x.f0)) := by
    intro b hb
    refine Ev.up ?_
    simp only [spec_l3Form.j2]
    unfold wantT
    refine Ev.cases (fun h => ?_) (fun h => ?_)
    · rw [if_pos (hb.1 h)]
      exact Ev.cases (fun g => Ev.const (by rw [decide_eq_true g, Bool.true_and]; rfl)) (fun g => Ev.const (by rw [decide_eq_false g]; rfl))
    · rw [if_neg (fun g => h (hb.2 g))]
      refine Ev.cases (fun g4 => ?_) (fun g4 => ?_)
      · rw [if_pos g4]; exact Ev.cases (fun g => Ev.const (by rw [decide_eq_true g, Bool.true_and]; rfl)) (fun g => Ev.const (by rw [decide_eq_false g]; rfl))
      rw [if_neg g4]
      refine Ev.cases (fun g5 => ?_) (fun g5 => ?_)
      · rw [if_pos g5]; exact Ev.cases (fun g => Ev.const (by rw [decide_eq_true g, Bool.true_and]; rfl)) (fun g => Ev.const (by rw [decide_eq_false g]; rfl))
      · rw [if_neg g5]; exact Ev.cases (fun g => Ev.const (by rw [decide_eq_true g, Bool.true_and]; rfl)) (fun g => Ev.const (by rw [decide_eq_false g]; rfl))
  have j1 : ∀ b : Bool, Ev (fun k => spec_l3Form.j1 k b x.f0 x.f1 x.f2) (!b && (decide ((x.f1.length : Int) = 0) && decide ((x.f2.length : Int) = wantT x.f0))) := by
    intro b
    refine Ev.up ?_
    simp only [spec_l3Form.j1]
    refine Ev.cases (fun h => Ev.const (by simp [h])) (fun h => ?_)
    rw [Bool.eq_false_iff.2 h, Bool.not_false, Bool.true_and]
    refine Ev.cases (fun h1 => j2 _ (by simp [h1])) (fun h1 => j2 _ (by simp [h1]))
  rw [formT_eq, formTS_all]
  refine Ev.up ?_
  simp only [spec_l3Form.f]
  refine all_ev x.f2 z35 formT _ (fun k i => spec_l3Form.l0 k (i : Int) x.f0 x.f1 x.f2) (fun k i => spec_l3Form.f k (rd_T35 x.f2 (i : Int)).f0 (rd_T35 x.f2 (i : Int)).f1 (rd_T35 x.f2 (i : Int)).f2) (fun k i hi => ?_) ?_ (fun i hi => ih (x.f2.getD i z35) (mem_getD x.f2 z35 i hi) (hs.p2.2 _ (mem_getD x.f2 z35 i hi)))
  · simp only [spec_l3Form.l0]
    rw [if_pos (by omega), if_pos (by omega), w1' hi hs.p2.1]
  · refine Ev.up ?_
    simp only [spec_l3Form.l0]
    refine Ev.neg (by omega) ?_
    unfold topT
    refine Ev.cases (fun h3 => ?_) (fun h3 => ?_)
    · rw [if_pos h3]
      refine Ev.cases (fun hl => ?_) (fun hl => ?_)
      · rw [decide_eq_true hl, Bool.true_and]
        refine Ev.bind (spec_l3Labels_ev x.f1 hs.p1.1 hs.p1.2) ?_
        refine Ev.cases (fun hb => ?_) (fun hb => ?_)
        · rw [hb, Bool.true_and]
          refine Ev.bind (spec_l3Has_ev 5 x hs) (Ev.const ?_)
          rw [hasT_eq, h3]; simp
        · rw [Bool.eq_false_iff.2 hb]; exact Ev.now _
      · rw [decide_eq_false hl]; exact Ev.now _
    · rw [if_neg h3]
      refine Ev.cases (fun h4 => ?_) (fun h4 => ?_)
      · refine Ev.cases (fun h1 => Ev.pos (by omega) ?_) (fun h1 => ?_)
        · have hl1 : x.f2.length = 1 := by omega
          have hh := spec_l3Has_ev 5 (x.f2.getD 0 z35) (hs.p2.2 _ (mem_getD x.f2 z35 0 (by omega)))
          refine Ev.bind hh ?_
          have e : hasT 5 (x.f2.getD 0 z35) = hasTS 5 x.f2 := by
            obtain ⟨y, hy⟩ := List.length_eq_one_iff.1 hl1
            rw [hy]; simp [hasTS]
          rw [e]
          refine Ev.eq (j1 _) ?_
          cases hc : hasTS 5 x.f2
          · rw [if_neg (by simp)]; rfl
          · rw [if_pos ⟨h4, hl1, rfl⟩]; rfl
        · rw [if_neg (by omega)]
          exact j1 false
      · rw [if_neg (fun h => h4 h.1)]
        exact j1 false
theorem impl_typeForm_ev : ∀ x : S35, SmType x → ∀ p d, 0 ≤ d → d ≤ 8 → Ev (fun k => impl_typeForm.f k x.f0 x.f1 x.f2 p d) (tfT p d x) := by
  refine indTypeI fun x ih hs p d hd0 hd1 => ?_
  have wx := wf64 hs.p0
  have hl1 := hs.p1.1
  have j4 : d ≤ 7 → ∀ q, Ev (fun k => impl_typeForm.j4 k d q x.f2) (tfTS q (d + 1) x.f2) := by
    intro hd7 q
    refine Ev.up ?_
    simp only [impl_typeForm.j4]
    refine Ev.eq (all_ev x.f2 z35 (tfT q (d + 1)) true (fun k i => impl_typeForm.l0 k d q (x.f2.length : Int) (i : Int) x.f2) (fun k i => impl_typeForm.f k (rd_T35 x.f2 (i : Int)).f0 (rd_T35 x.f2 (i : Int)).f1 (rd_T35 x.f2 (i : Int)).f2 q (d + 1)) (fun k i hi => ?_) ?_ (fun i hi => ?_)) (by rw [tfTS_all, Bool.and_true])
    · simp only [impl_typeForm.l0]
      rw [if_pos (by omega), if_pos (by omega), if_pos (by omega), w1' hi hs.p2.1, w64 (a := d + 1) (by omega) (by omega)]
    · refine Ev.up ?_
      simp only [impl_typeForm.l0]
      exact Ev.neg (by omega) (Ev.now _)
    · exact ih (x.f2.getD i z35) (mem_getD x.f2 z35 i hi) (hs.p2.2 _ (mem_getD x.f2 z35 i hi)) q (d + 1) (by omega) (by omega)
  have j3 : d ≤ 7 → Ev (fun k => impl_typeForm.j3 k p d x.f0 x.f2) (tfTS (p || (decide (x.f0 = 3) || decide (x.f0 = 4))) (d + 1) x.f2) := by
    intro hd7
    refine Ev.up ?_
    simp only [impl_typeForm.j3]
    refine Ev.cases (fun h => ?_) (fun h => ?_)
    · rw [h, Bool.true_or]; exact j4 hd7 true
    · rw [Bool.eq_false_iff.2 h, Bool.false_or]
      refine Ev.cases (fun h3 => ?_) (fun h3 => ?_)
      · rw [decide_eq_true h3, Bool.true_or]; exact j4 hd7 true
      · rw [decide_eq_false h3, Bool.false_or]; exact j4 hd7 _
  have j2 : d ≤ 7 → ∀ b : Bool, Ev (fun k => impl_typeForm.j2 k p d b x.f0 x.f1 x.f2) (!b && ((decide (x.f0 = 3) || decide (x.f1.length = 0)) && tfTS (p || (decide (x.f0 = 3) || decide (x.f0 = 4))) (d + 1) x.f2)) := by
    intro hd7 b
    refine Ev.up ?_
    simp only [impl_typeForm.j2]
    refine Ev.cases (fun h => Ev.const (by rw [h]; rfl)) (fun h => ?_)
    rw [Bool.eq_false_iff.2 h, Bool.not_false, Bool.true_and]
    refine Ev.cases (fun h3 => ?_) (fun h3 => ?_)
    · have := j3 hd7
      rw [decide_eq_true h3] at this ⊢
      exact this
    · rw [decide_eq_false h3, Bool.false_or]
      refine Ev.cases (fun hl => Ev.const ?_) (fun hl => ?_)
      · rw [decide_eq_false (by omega)]; rfl
      · rw [decide_eq_true (by omega), Bool.true_and]
        have := j3 hd7
        rw [decide_eq_false h3] at this
        exact this
  have j1 : d ≤ 7 → ∀ b : Bool, Ev (fun k => impl_typeForm.j1 k p d b x.f0 x.f1 x.f2) (!b && (!(decide (x.f0 = 3) && !(labB x.f1)) && ((decide (x.f0 = 3) || decide (x.f1.length = 0)) && tfTS (p || (decide (x.f0 = 3) || decide (x.f0 = 4))) (d + 1) x.f2))) := by
    intro hd7 b
    refine Ev.up ?_
    simp only [impl_typeForm.j1]
    refine Ev.cases (fun h => Ev.const (by rw [h]; rfl)) (fun h => ?_)
    rw [Bool.eq_false_iff.2 h, Bool.not_false, Bool.true_and]
    refine Ev.cases (fun h3 => ?_) (fun h3 => ?_)
    · refine Ev.bind (impl_labelsOk_ev x.f1 hs.p1.1 hs.p1.2) ?_
      have := j2 hd7 (!(labB x.f1))
      rw [decide_eq_true h3] at this ⊢
      rw [Bool.true_and]
      exact this
    · have := j2 hd7 false
      rw [decide_eq_false h3] at this ⊢
      rw [Bool.false_and]
      exact this
  have j0 : ∀ b : Bool, (b = false → d ≤ 7) → Ev (fun k => impl_typeForm.j0 k p d b x.f0 x.f1 x.f2) (!b && (!(decide (x.f0 = 5) && p) && (!(decide (x.f0 = 3) && !(labB x.f1)) && ((decide (x.f0 = 3) || decide (x.f1.length = 0)) && tfTS (p || (decide (x.f0 = 3) || decide (x.f0 = 4))) (d + 1) x.f2)))) := by
    intro b hb
    refine Ev.up ?_
    simp only [impl_typeForm.j0]
    refine Ev.cases (fun h => Ev.const (by rw [h]; rfl)) (fun h => ?_)
    have hd7 := hb (Bool.eq_false_iff.2 h)
    rw [Bool.eq_false_iff.2 h, Bool.not_false, Bool.true_and]
    refine Ev.cases (fun h5 => ?_) (fun h5 => ?_)
    · rw [decide_eq_true h5, Bool.true_and]; exact j1 hd7 p
    · rw [decide_eq_false h5, Bool.false_and]; exact j1 hd7 false
  rw [tfT_eq]
  unfold topI
  refine Ev.up ?_
  simp only [impl_typeForm.f]
  refine Ev.pos (by omega) (Ev.pos (by omega) (Ev.pos (by omega) (Ev.pos (by omega) ?_)))
  have no : ¬ (1 ≤ x.f0 ∧ x.f0 ≤ 5 ∧ d ≤ 7) → ∀ A B C : Bool, Ev (fun k => impl_typeForm.j0 k p d true x.f0 x.f1 x.f2) (((decide (1 ≤ x.f0 ∧ x.f0 ≤ 5 ∧ d ≤ 7) && A) && B) && C) := by
    intro h A B C
    rw [decide_eq_false h]
    exact j0 true (fun h => by cases h)
  refine Ev.cases (fun h1 => no (by omega) _ _ _) (fun h1 => ?_)
  refine Ev.cases (fun h2 => no (by omega) _ _ _) (fun h2 => ?_)
  refine Ev.cases (fun h3 => no (by omega) _ _ _) (fun h3 => ?_)
  rw [decide_eq_true (by omega : 1 ≤ x.f0 ∧ x.f0 ≤ 5 ∧ d ≤ 7), Bool.true_and]
  refine Ev.eq (j0 _ (fun _ => by omega)) ?_
  have e : ((x.f2.length : Int) != imPut (imPut (imPut im0 4 1) 5 2) 3 (x.f1.length : Int) x.f0) = !(decide ((x.f2.length : Int) = imPut (imPut (imPut im0 4 1) 5 2) 3 (x.f1.length : Int) x.f0)) := rfl
  rw [e, Bool.not_not]
  simp only [Bool.and_assoc]
theorem spec_l3Left_ev : ∀ x : S35, SmType x → ∀ n : Int, 0 ≤ n → n ≤ 1048577 → ∃ r, Ev (fun k => spec_l3Left.f k x.f0 x.f1 x.f2 n) r ∧ ((ndType x : Int) ≤ n → r = n - ndType x) ∧ (n < ndType x → r < 0) ∧ r ≤ 1048577 := by
  refine indTypeI fun x ih hs n hn hn2 => ?_
  rw [ndType_eq]
  have loop : ∀ m i s, i + m = x.f2.length → s ≤ 1048577 → ∃ r, Ev (fun k => spec_l3Left.l0 k s (i : Int) x.f0 x.f1 x.f2) r ∧ (0 ≤ s → (((((x.f2.drop i).map ndType).sum : Nat) : Int) ≤ s → r = s - (((x.f2.drop i).map ndType).sum : Nat)) ∧ (s < (((x.f2.drop i).map ndType).sum : Nat) → r < 0)) ∧ (s < 0 → r < 0) ∧ r ≤ 1048577 := by
    intro m
    induction m with
    | zero =>
      intro i s hi hs1
      refine ⟨s, Ev.up ?_, fun h => ?_, id, hs1⟩
      · simp only [spec_l3Left.l0]; exact Ev.neg (by omega) (Ev.now _)
      · rw [List.drop_of_length_le (by omega)]; simp <;> omega
    | succ m ihm =>
      intro i s hi hs1
      have hlt : i < x.f2.length := by omega
      have e : x.f2.getD i z35 = x.f2[i] := by simp [List.getD_eq_getElem?_getD, hlt]
      by_cases h0 : 0 ≤ s
      · obtain ⟨r, h1, h2, h3, h4⟩ := ih (x.f2.getD i z35) (mem_getD x.f2 z35 i hlt) (hs.p2.2 _ (mem_getD x.f2 z35 i hlt)) s h0 hs1
        obtain ⟨u, g1, g2, g3, g4⟩ := ihm (i + 1) r (by omega) h4
        refine ⟨u, Ev.up ?_, fun _ => ?_, fun h => by omega, g4⟩
        · simp only [spec_l3Left.l0, w1' hlt hs.p2.1]
          exact Ev.pos (by omega) (Ev.pos h0 (Ev.pos (by omega) (Ev.bind h1 g1)))
        · rw [List.drop_eq_getElem_cons hlt, List.map_cons, List.sum_cons, ← e]
          by_cases hc : (ndType (x.f2.getD i z35) : Int) ≤ s
          · have := h2 hc
            have := g2 (by omega)
            omega
          · have := h3 (by omega)
            have := g3 (by omega)
            omega
      · refine ⟨s, Ev.up ?_, fun h => absurd h h0, id, hs1⟩
        simp only [spec_l3Left.l0]
        exact Ev.pos (by omega) (Ev.neg (by omega) (Ev.now _))
  obtain ⟨r, h1, h2, h3, h4⟩ := loop x.f2.length 0 (n - 1) (by omega) (by omega)
  refine ⟨r, Ev.up ?_, ?_, ?_, h4⟩
  · simp only [spec_l3Left.f]
    rw [w64 (a := n - 1) (by omega) (by omega)]
    exact h1
  · intro h; have := h2 (by omega); simp at this; omega
  · intro h
    by_cases h0 : 0 ≤ n - 1
    · have := h2 h0; simp at this; omega
    · exact h3 (by omega)

end Go.Proofs.Ytkapkfobbeehkaa.Px
end
section
namespace Go.Proofs.Ytkapkfobbeehkaa.Px
open Go.RowKit Go.Proofs.YtkapkfobbeehkaaW.PrintWords Go.Proofs.YtkapkfobbeehkaaW.PrintLast Go.Proofs.Ytkapkfobbeehkaa.Pl Go.Proofs.Ytkapkfobbeehkaa.Ext
set_option linter.unusedVariables false
set_option linter.unusedSimpArgs false
theorem mx_nat (a b : Nat) : mx (a : Int) (b : Int) = ((max a b : Nat) : Int) := by rw [mx_eq]; split <;> omega
theorem fold_mx : ∀ (xs : List S35) (s : Nat), xs.foldl (fun (s : Int) y => mx s (depT y : Int)) (s : Int) = ((max s (depTS xs) : Nat) : Int)
  | [], s => by simp [depTS]
  | x :: r, s => by
    rw [List.foldl_cons, mx_nat, fold_mx r]
    simp only [depTS]
    congr 1
    omega
theorem spec_DepthOfType_ev : ∀ x : S35, SmType x → ndType x ≤ 1048577 → Ev (fun k => spec_DepthOfType.f k x.f0 x.f1 x.f2) (depT x : Int) := by
  refine indTypeI fun x ih hs hn => ?_
  have hd := depT_nd x
  rw [ndType_eq] at hn
  refine Ev.up ?_
  simp only [spec_DepthOfType.f]
  refine Ev.eq (fold_loop x.f2.length (fun k i => spec_DepthOfType.f k (rd_T35 x.f2 (i : Int)).f0 (rd_T35 x.f2 (i : Int)).f1 (rd_T35 x.f2 (i : Int)).f2) (fun k s i => spec_DepthOfType.l0 k s (i : Int) x.f0 x.f1 x.f2) mx (fun i => (depT (x.f2.getD i z35) : Int)) (fun s => wrap64 (s + 1))
    (fun k s i hi => by simp only [spec_DepthOfType.l0, spec_l1Max_eq, Option.bind_some]; rw [if_pos (by omega), if_pos (by omega), w1' hi hs.p2.1])
    (fun k s => by simp only [spec_DepthOfType.l0]; rw [if_neg (by omega)])
    (fun i hi => ih (x.f2.getD i z35) (mem_getD x.f2 z35 i hi) (hs.p2.2 _ (mem_getD x.f2 z35 i hi)) (by have := sum_le_of_mem ndType (mem_getD x.f2 z35 i hi); omega)) x.f2.length 0 0 (by omega)) ?_
  rw [foldl_range (fun (s : Int) y => mx s (depT y : Int)) z35 x.f2 0]
  have e := fold_mx x.f2 0
  rw [depT_eq] at hd ⊢
  rw [ndType_eq] at hd
  rw [show (0 : Int) = ((0 : Nat) : Int) from rfl, e, w64 (by omega) (by omega)]
  omega
/-- Is a type valid? -/
def vT (x : S35) : Bool := decide (ndType x ≤ 24) && (decide (depT x ≤ 7) && formT x)
theorem spec_IsValidType_ev (x : S35) (hs : SmType x) (hn : ndType x ≤ 1048577) : Ev (fun k => spec_IsValidType.f k x.f0 x.f1 x.f2) (vT x) := by
  obtain ⟨r, h1, h2, h3, _⟩ := spec_l3Left_ev x hs 24 (by decide) (by decide)
  simp only [spec_IsValidType.f, vT]
  refine Ev.bind h1 ?_
  by_cases hc : ndType x ≤ 24
  · have := h2 (by omega)
    rw [decide_eq_true hc, Bool.true_and]
    refine Ev.pos (by omega) (Ev.bind (spec_DepthOfType_ev x hs hn) ?_)
    refine Ev.cases (fun hd => ?_) (fun hd => ?_)
    · rw [decide_eq_true (by omega), Bool.true_and]
      exact Ev.bind (spec_l3Form_ev x hs) (Ev.now _)
    · rw [decide_eq_false (by omega)]; exact Ev.now _
  · have := h3 (by omega)
    rw [decide_eq_false hc]
    exact Ev.neg (by omega) (Ev.now _)
theorem impl_IsValidType_ev (x : S35) (hs : SmType x) (hn : ndType x ≤ 1048577) : Ev (fun k => impl_IsValidType.f k x.f0 x.f1 x.f2) (vT x) := by
  simp only [impl_IsValidType.f, vT]
  refine Ev.bind (impl_typeForm_ev x hs false 1 (by decide) (by decide)) ?_
  have e := tfT_iff x false 1
  refine Ev.cases (fun h => ?_) (fun h => ?_)
  · obtain ⟨h1, _, h2⟩ := e.1 h
    refine Ev.bind (impl_SizeOfType_ev x hs hn) (Ev.const ?_)
    rw [h1, decide_eq_true (by omega : depT x ≤ 7)]
    simp
    omega
  · refine Ev.const ?_
    cases hf : formT x
    · simp
    · have : ¬ depT x ≤ 7 := fun hd => h (e.2 ⟨hf, fun hp => absurd hp (by decide), by omega⟩)
      rw [decide_eq_false this]; simp
end Go.Proofs.Ytkapkfobbeehkaa.Px
end
section
namespace Go.Proofs.Ytkapkfobbeehkaa.Px
open Go.RowKit Go.Proofs.YtkapkfobbeehkaaW.PrintWords Go.Proofs.YtkapkfobbeehkaaW.PrintLast Go.Proofs.Ytkapkfobbeehkaa.Pl Go.Proofs.Ytkapkfobbeehkaa.Ext
set_option linter.unusedVariables false
set_option linter.unusedSimpArgs false
def lab (a t : ByteArray) : ByteArray := (a ++ (⟨#[58]⟩ : ByteArray)) ++ t
/-- The text of a node, out of the texts of its parts. -/
def bodyT (a : Int) (l ts : List ByteArray) : ByteArray :=
  if a = 1 then (⟨#[73]⟩ : ByteArray) else if a = 2 then (⟨#[66]⟩ : ByteArray) else if a = 3 then (((⟨#[123]⟩ : ByteArray) ++ joinB (List.zipWith lab l ts) (⟨#[44]⟩ : ByteArray)) ++ (⟨#[125]⟩ : ByteArray)) else if a = 4 then (((⟨#[91]⟩ : ByteArray) ++ ts.getD 0 ByteArray.empty) ++ (⟨#[93]⟩ : ByteArray)) else (((⟨#[40]⟩ : ByteArray) ++ joinB ts (⟨#[62]⟩ : ByteArray)) ++ (⟨#[41]⟩ : ByteArray))
mutual
def txT : S35 → ByteArray
  | ⟨a, l, xs⟩ => bodyT a l (txTS xs)
def txTS : List S35 → List ByteArray
  | [] => []
  | x :: r => txT x :: txTS r
end
theorem txTS_map (xs : List S35) : txTS xs = xs.map txT := by
  induction xs with
  | nil => rfl
  | cons x r ih => simp [txTS, ih]
theorem txT_eq (x : S35) : txT x = bodyT x.f0 x.f1 (x.f2.map txT) := by cases x; simp only [txT, txTS_map]
theorem formT_cases (t : S35) (h : formT t = true) : (∀ y ∈ t.f2, formT y = true) ∧ (t.f0 = 1 ∨ t.f0 = 2 ∨ t.f0 = 3 ∨ t.f0 = 4 ∨ t.f0 = 5) ∧ (t.f0 = 3 → t.f2.length = t.f1.length ∧ labB t.f1 = true) ∧ (t.f0 = 4 → t.f2.length = 1) ∧ (t.f0 = 5 → t.f2.length = 2) := by
  rw [formT_eq, Bool.and_eq_true, formTS_all, List.all_eq_true] at h
  obtain ⟨h1, h2⟩ := h
  unfold topT at h2
  by_cases e3 : t.f0 = 3
  · rw [if_pos e3, Bool.and_eq_true, Bool.and_eq_true] at h2
    have := of_decide_eq_true h2.1
    exact ⟨h1, by omega, fun _ => ⟨by omega, h2.2.1⟩, fun h => by omega, fun h => by omega⟩
  rw [if_neg e3] at h2
  split at h2
  · cases h2
  rw [Bool.and_eq_true] at h2
  have hw := of_decide_eq_true h2.2
  unfold wantT at hw
  by_cases e12 : t.f0 = 1 ∨ t.f0 = 2
  · exact ⟨h1, by omega, fun h => by omega, fun h => by omega, fun h => by omega⟩
  rw [if_neg e12] at hw
  by_cases e4 : t.f0 = 4
  · rw [if_pos e4] at hw
    exact ⟨h1, by omega, fun h => by omega, fun h => by omega, fun h => by omega⟩
  rw [if_neg e4] at hw
  by_cases e5 : t.f0 = 5
  · rw [if_pos e5] at hw
    exact ⟨h1, by omega, fun h => by omega, fun h => by omega, fun h => by omega⟩
  · rw [if_neg e5] at hw
    omega
theorem isName_size (s : ByteArray) (h : isName s = true) : s.size ≤ 4 := by
  simp only [isName, Bool.and_eq_true, decide_eq_true_eq] at h
  omega
theorem labB_size (l : List ByteArray) (h : labB l = true) : ∀ y ∈ l, y.size ≤ 4 := by
  simp only [labB, Bool.and_eq_true, List.all_eq_true] at h
  exact fun y hy => isName_size y (h.1 y hy)
theorem szs_cons (x : ByteArray) (r : List ByteArray) : szs (x :: r) = x.size + szs r := by simp [szs]
theorem szs_map (xs : List S35) (h : ∀ y ∈ xs, (txT y).size + 6 ≤ 8 * ndType y) : szs (xs.map txT) + 6 * xs.length ≤ 8 * (xs.map ndType).sum := by
  induction xs with
  | nil => simp [szs]
  | cons x r ih =>
    have h1 := h x List.mem_cons_self
    have h2 := ih (fun y hy => h y (List.mem_cons_of_mem _ hy))
    simp only [List.map_cons, List.sum_cons, List.length_cons]
    rw [szs_cons]
    omega
theorem szs_zip : ∀ (l ts : List ByteArray), (∀ y ∈ l, y.size ≤ 4) → szs (List.zipWith lab l ts) ≤ 5 * ts.length + szs ts
  | [], ts, _ => by simp [szs]
  | a :: l, [], _ => by simp [szs]
  | a :: l, t :: ts, h => by
    have h1 := h a List.mem_cons_self
    have h2 := szs_zip l ts (fun y hy => h y (List.mem_cons_of_mem _ hy))
    rw [List.zipWith_cons_cons, szs_cons, szs_cons, List.length_cons]
    have a1 : (⟨#[58]⟩ : ByteArray).size = 1 := rfl
    have : (lab a t).size = a.size + 1 + t.size := by rw [lab, ByteArray.size_append, ByteArray.size_append, a1]
    omega
theorem txT_size : ∀ x : S35, formT x = true → (txT x).size + 6 ≤ 8 * ndType x := by
  refine indTypeI fun x ih hf => ?_
  obtain ⟨hy, hk, h3, h4, h5⟩ := formT_cases x hf
  have hs := szs_map x.f2 (fun y hm => ih y hm (hy y hm))
  rw [txT_eq, ndType_eq]
  unfold bodyT
  rcases hk with e | e | e | e | e
  · have a1 : (⟨#[73]⟩ : ByteArray).size = 1 := rfl
    rw [if_pos e, a1]; omega
  · have a1 : (⟨#[66]⟩ : ByteArray).size = 1 := rfl
    rw [if_neg (by omega), if_pos e, a1]; omega
  · have hz := szs_zip x.f1 (x.f2.map txT) (labB_size _ (h3 e).2)
    have hj := joinL_length (List.zipWith lab x.f1 (x.f2.map txT)) (⟨#[44]⟩ : ByteArray)
    have hc : (⟨#[44]⟩ : ByteArray).size = 1 := rfl
    rw [hc] at hj
    have hl : (List.zipWith lab x.f1 (x.f2.map txT)).length ≤ x.f2.length := by simp; omega
    rw [List.length_map] at hz
    rw [if_neg (by omega), if_neg (by omega), if_pos e, ByteArray.size_append, ByteArray.size_append, joinB_size]
    have a1 : (⟨#[123]⟩ : ByteArray).size = 1 := rfl
    have a2 : (⟨#[125]⟩ : ByteArray).size = 1 := rfl
    omega
  · have hl := h4 e
    rw [if_neg (by omega), if_neg (by omega), if_neg (by omega), if_pos e, ByteArray.size_append, ByteArray.size_append]
    have a1 : (⟨#[91]⟩ : ByteArray).size = 1 := rfl
    have a2 : (⟨#[93]⟩ : ByteArray).size = 1 := rfl
    obtain ⟨y, hy1⟩ := List.length_eq_one_iff.1 hl
    rw [hy1] at hs ⊢
    simp [szs] at hs ⊢
    omega
  · have hl := h5 e
    have hj := joinL_length (x.f2.map txT) (⟨#[62]⟩ : ByteArray)
    have hc : (⟨#[62]⟩ : ByteArray).size = 1 := rfl
    rw [hc, List.length_map] at hj
    rw [if_neg (by omega), if_neg (by omega), if_neg (by omega), if_neg (by omega), ByteArray.size_append, ByteArray.size_append, joinB_size]
    have a1 : (⟨#[40]⟩ : ByteArray).size = 1 := rfl
    have a2 : (⟨#[41]⟩ : ByteArray).size = 1 := rfl
    omega
/-- The texts of a node's parts, as_ they are joined. -/
def partsT (x : S35) : List ByteArray := if x.f0 = 3 then List.zipWith lab x.f1 (x.f2.map txT) else x.f2.map txT
theorem partsT_length (x : S35) (hf : formT x = true) : (partsT x).length = x.f2.length := by
  unfold partsT
  split
  · rename_i h
    have := ((formT_cases x hf).2.2.1 h).1
    simp
    omega
  · simp
theorem partsT_getD (x : S35) (hf : formT x = true) (i : Nat) (hi : i < x.f2.length) : (partsT x).getD i ByteArray.empty = if x.f0 = 3 then lab (x.f1.getD i ByteArray.empty) (txT (x.f2.getD i z35)) else txT (x.f2.getD i z35) := by
  unfold partsT
  split
  · rename_i h
    have := ((formT_cases x hf).2.2.1 h).1
    have hl : i < x.f1.length := by omega
    have e1 : (List.zipWith lab x.f1 (x.f2.map txT))[i]? = some (lab x.f1[i] (txT x.f2[i])) := by
      rw [List.getElem?_eq_getElem (by simp; omega)]
      simp
    rw [List.getD_eq_getElem?_getD, e1]
    simp [List.getD_eq_getElem?_getD, hi, hl]
  · simp [List.getD_eq_getElem?_getD, hi]
theorem take_getD (xs : List ByteArray) (i : Nat) (h : i < xs.length) : xs.take (i + 1) = xs.take i ++ [xs.getD i ByteArray.empty] := by
  rw [List.take_succ_eq_append_getElem h]
  simp [List.getD_eq_getElem?_getD, h]
theorem partsT_small (x : S35) (hf : formT x = true) (hn : ndType x ≤ 1048577) : szs (partsT x) + (partsT x).length ≤ 8388616 := by
  obtain ⟨hy, hk, h3, h4, h5⟩ := formT_cases x hf
  have hs := szs_map x.f2 (fun y hm => txT_size y (hy y hm))
  rw [partsT_length x hf]
  rw [ndType_eq] at hn
  unfold partsT
  split
  · rename_i e
    have hz := szs_zip x.f1 (x.f2.map txT) (labB_size _ (h3 e).2)
    rw [List.length_map] at hz
    omega
  · omega
theorem spec_l4Text_ev : ∀ x : S35, SmType x → ndType x ≤ 1048577 → formT x = true → Ev (fun k => spec_l4Text.f k x.f0 x.f1 x.f2) (txT x) := by
  refine indTypeI fun x ih hs hn hf => ?_
  obtain ⟨hy, hk, h3, h4, h5⟩ := formT_cases x hf
  have hpl := partsT_length x hf
  have hps := partsT_small x hf hn
  have hlen := hs.p2.1
  rw [ndType_eq] at hn
  refine Ev.up ?_
  simp only [spec_l4Text.f]
  suffices h : ∀ m i, i + m = x.f2.length → Ev (fun k => spec_l4Text.l0 k ((partsT x).take i) (i : Int) x.f0 x.f1 x.f2) (txT x) from by simpa using h x.f2.length 0 (by omega)
  intro m
  induction m with
  | zero =>
    intro i hi
    refine Ev.up ?_
    simp only [spec_l4Text.l0]
    refine Ev.neg (by omega) ?_
    rw [List.take_of_length_le (by omega), txT_eq]
    unfold bodyT
    refine Ev.cases (fun e1 => by rw [if_pos e1]; exact Ev.now _) (fun e1 => ?_)
    rw [if_neg e1]
    refine Ev.cases (fun e2 => by rw [if_pos e2]; exact Ev.now _) (fun e2 => ?_)
    rw [if_neg e2]
    refine Ev.cases (fun e3 => ?_) (fun e3 => ?_)
    · rw [if_pos e3]
      have hc : (⟨#[44]⟩ : ByteArray).size = 1 := rfl
      refine Ev.bind (spec_Join_ev (partsT x) (⟨#[44]⟩ : ByteArray) (by omega) (by rw [hc]; omega)) ?_
      have hj := joinL_length (partsT x) (⟨#[44]⟩ : ByteArray)
      rw [hc, ← joinB_size] at hj
      refine Ev.pos (by omega) (Ev.pos ?_ (Ev.const ?_))
      · first
          | omega
          | (rw [ByteArray.size_append]; have a1 : (⟨#[123]⟩ : ByteArray).size = 1 := rfl; omega)
      · have : partsT x = List.zipWith lab x.f1 (x.f2.map txT) := by unfold partsT; rw [if_pos e3]
        rw [this]
    rw [if_neg e3]
    have hp : partsT x = x.f2.map txT := by unfold partsT; rw [if_neg e3]
    refine Ev.cases (fun e4 => ?_) (fun e4 => ?_)
    · rw [if_pos e4]
      have hl := h4 e4
      refine Ev.pos (by omega) ?_
      have e0 : rdOf ByteArray.empty (partsT x) 0 = (x.f2.map txT).getD 0 ByteArray.empty := by rw [hp]; exact rdOf_str _ 0
      rw [e0]
      have hsz : ((x.f2.map txT).getD 0 ByteArray.empty).size ≤ 8388616 := by
        rw [hp] at hps
        have hm := mem_getD (x.f2.map txT) ByteArray.empty 0 (by rw [List.length_map]; omega)
        have := sum_le_of_mem ByteArray.size hm
        unfold szs at hps
        omega
      refine Ev.pos (by omega) (Ev.pos ?_ (Ev.now _))
      first
        | omega
        | (rw [ByteArray.size_append]; have a1 : (⟨#[91]⟩ : ByteArray).size = 1 := rfl; omega)
    · rw [if_neg e4]
      have hc : (⟨#[62]⟩ : ByteArray).size = 1 := rfl
      refine Ev.bind (spec_Join_ev (partsT x) (⟨#[62]⟩ : ByteArray) (by omega) (by rw [hc]; omega)) ?_
      have hj := joinL_length (partsT x) (⟨#[62]⟩ : ByteArray)
      rw [hc, ← joinB_size] at hj
      refine Ev.pos (by omega) (Ev.pos ?_ (Ev.const ?_))
      · first
          | omega
          | (rw [ByteArray.size_append]; have a1 : (⟨#[40]⟩ : ByteArray).size = 1 := rfl; omega)
      · rw [hp]
  | succ m ihm =>
    intro i hi
    have hlt : i < x.f2.length := by omega
    have hm := mem_getD x.f2 z35 i hlt
    have hsub := ih _ hm (hs.p2.2 _ hm) (by have := sum_le_of_mem ndType hm; omega) (hy _ hm)
    have hsz := txT_size _ (hy _ hm)
    have hnd := sum_le_of_mem ndType hm
    have hg := partsT_getD x hf i hlt
    have ht := take_getD (partsT x) i (by omega)
    have ihm' := ihm (i + 1) (by omega)
    rw [ht, hg] at ihm'
    have hti : ((partsT x).take i).length < 8796093022208 := by rw [List.length_take]; omega
    refine Ev.up ?_
    simp only [spec_l4Text.l0, w1' hlt hlen]
    refine Ev.pos (by omega) (Ev.pos (by omega) (Ev.bind hsub ?_))
    refine Ev.cases (fun e3 => ?_) (fun e3 => ?_)
    · rw [if_pos e3] at ihm'
      have hl := (h3 e3).1
      have hls := labB_size _ (h3 e3).2 _ (mem_getD x.f1 ByteArray.empty i (by omega))
      rw [rdOf_str]
      refine Ev.pos (by omega) (Ev.pos (by omega) (Ev.pos ?_ (Ev.pos hti ihm')))
      first
        | omega
        | (rw [ByteArray.size_append]; have a1 : (⟨#[58]⟩ : ByteArray).size = 1 := rfl; omega)
    · rw [if_neg e3] at ihm'
      exact Ev.pos hti ihm'
theorem data_app (a b : ByteArray) : (a ++ b).data.toList = a.data.toList ++ b.data.toList := by simp
theorem ba_ext {a b : ByteArray} (h : a.data.toList = b.data.toList) : a = b := by
  cases a with | mk a => cases b with | mk b =>
  congr 1
  exact Array.toList_inj.1 h
theorem len2 {α : Type} (l : List α) (h : l.length = 2) : ∃ a b, l = [a, b] := by
  match l, h with
  | [a, b], _ => exact ⟨a, b, rfl⟩
theorem two_join (a b s : ByteArray) : joinB [a, b] s = (a ++ s) ++ b := by
  apply ba_ext
  rw [data_app, data_app]
  simp [joinB, joinL, Lib.join_cons, Lib.joinTail]
theorem impl_typeText_ev : ∀ x : S35, SmType x → ndType x ≤ 1048577 → formT x = true → Ev (fun k => impl_typeText.f k x.f0 x.f1 x.f2) (txT x) := by
  refine indTypeI fun x ih hs hn hf => ?_
  obtain ⟨hy, hk, h3, h4, h5⟩ := formT_cases x hf
  have hpl := partsT_length x hf
  have hps := partsT_small x hf hn
  have hlen := hs.p2.1
  rw [ndType_eq] at hn
  have sub : ∀ i, i < x.f2.length → Ev (fun k => impl_typeText.f k (rd_T35 x.f2 (i : Int)).f0 (rd_T35 x.f2 (i : Int)).f1 (rd_T35 x.f2 (i : Int)).f2) (txT (x.f2.getD i z35)) ∧ (txT (x.f2.getD i z35)).size ≤ 8388616 := by
    intro i hi
    have hm := mem_getD x.f2 z35 i hi
    have hnd := sum_le_of_mem ndType hm
    have hsz := txT_size _ (hy _ hm)
    exact ⟨ih (x.f2.getD i z35) hm (hs.p2.2 _ hm) (by omega) (hy _ hm), by omega⟩
  refine Ev.up ?_
  simp only [impl_typeText.f]
  rw [txT_eq]
  unfold bodyT
  refine Ev.cases (fun e1 => by rw [if_pos e1]; exact Ev.now _) (fun e1 => ?_)
  rw [if_neg e1]
  refine Ev.cases (fun e2 => by rw [if_pos e2]; exact Ev.now _) (fun e2 => ?_)
  rw [if_neg e2]
  refine Ev.cases (fun e4 => ?_) (fun e4 => ?_)
  · rw [if_neg (by omega), if_pos e4]
    have hl := h4 e4
    obtain ⟨s1, s2⟩ := sub 0 (by omega)
    refine Ev.pos (by omega) (Ev.bind s1 (Ev.pos (by omega) (Ev.pos ?_ (Ev.const ?_))))
    · first
        | omega
        | (rw [ByteArray.size_append]; have a1 : (⟨#[91]⟩ : ByteArray).size = 1 := rfl; omega)
    · obtain ⟨y, hy1⟩ := List.length_eq_one_iff.1 hl
      rw [hy1]; rfl
  refine Ev.cases (fun e5 => ?_) (fun e5 => ?_)
  · rw [if_neg (by omega), if_neg e4]
    have hl := h5 e5
    obtain ⟨s1, s2⟩ := sub 0 (by omega)
    obtain ⟨q1, q2⟩ := sub 1 (by omega)
    have a1 : (⟨#[40]⟩ : ByteArray).size = 1 := rfl
    have a2 : (⟨#[62]⟩ : ByteArray).size = 1 := rfl
    refine Ev.pos (by omega) (Ev.bind s1 (Ev.pos (by omega) (Ev.pos ?_ (Ev.pos (by omega) (Ev.bind q1 (Ev.pos ?_ (Ev.pos ?_ (Ev.const ?_))))))))
    · first | omega | (rw [ByteArray.size_append]; omega)
    · first | omega | (rw [ByteArray.size_append, ByteArray.size_append]; omega)
    · first | omega | (rw [ByteArray.size_append, ByteArray.size_append, ByteArray.size_append]; omega)
    · obtain ⟨y, z, hy1⟩ := len2 x.f2 hl
      rw [hy1]
      show _ = (⟨#[40]⟩ : ByteArray) ++ joinB [txT y, txT z] (⟨#[62]⟩ : ByteArray) ++ (⟨#[41]⟩ : ByteArray)
      rw [two_join]
      apply ba_ext
      simp [data_app]
  have e3 : x.f0 = 3 := by omega
  have hl := (h3 e3).1
  rw [if_pos e3]
  have hp : partsT x = List.zipWith lab x.f1 (x.f2.map txT) := by unfold partsT; rw [if_pos e3]
  rw [← hp]
  suffices h : ∀ m i, i + m = x.f1.length → Ev (fun k => impl_typeText.l0 k ((partsT x).take i) x.f1 (x.f1.length : Int) (i : Int) x.f2) (((⟨#[123]⟩ : ByteArray) ++ joinB (partsT x) (⟨#[44]⟩ : ByteArray)) ++ (⟨#[125]⟩ : ByteArray)) from by simpa using h x.f1.length 0 (by omega)
  intro m
  induction m with
  | zero =>
    intro i hi
    refine Ev.up ?_
    simp only [impl_typeText.l0]
    refine Ev.neg (by omega) ?_
    rw [List.take_of_length_le (by omega)]
    have hc : (⟨#[44]⟩ : ByteArray).size = 1 := rfl
    rw [strings_Join_eq (partsT x) (⟨#[44]⟩ : ByteArray) (by omega) (by rw [hc]; omega)]
    simp only [Option.bind_some]
    have hj := joinL_length (partsT x) (⟨#[44]⟩ : ByteArray)
    rw [hc, ← joinB_size] at hj
    refine Ev.pos (by omega) (Ev.pos ?_ (Ev.now _))
    first
      | omega
      | (rw [ByteArray.size_append]; have a1 : (⟨#[123]⟩ : ByteArray).size = 1 := rfl; omega)
  | succ m ihm =>
    intro i hi
    have hlt : i < x.f2.length := by omega
    obtain ⟨s1, s2⟩ := sub i hlt
    have hg := partsT_getD x hf i hlt
    have ht := take_getD (partsT x) i (by omega)
    have ihm' := ihm (i + 1) (by omega)
    rw [ht, hg, if_pos e3] at ihm'
    have hti : ((partsT x).take i).length < 8796093022208 := by rw [List.length_take]; omega
    have hls := labB_size _ (h3 e3).2 _ (mem_getD x.f1 ByteArray.empty i (by omega))
    refine Ev.up ?_
    simp only [impl_typeText.l0, w1' (show i < x.f1.length by omega) hs.p1.1, rdOf_str]
    refine Ev.pos (by omega) (Ev.pos (by omega) (Ev.pos (by omega) (Ev.pos (by omega) (Ev.pos (by omega) (Ev.bind s1 (Ev.pos ?_ (Ev.pos hti ihm')))))))
    first
      | omega
      | (rw [ByteArray.size_append]; have a1 : (⟨#[58]⟩ : ByteArray).size = 1 := rfl; omega)
theorem FormatType_same (x : S35) (hs : SmType x) (hn : ndType x ≤ 1048577) : Same (fun k => spec_FormatType.f k x.f0 x.f1 x.f2) (fun k => impl_FormatType.f k x.f0 x.f1 x.f2) := by
  simp only [spec_FormatType.f, impl_FormatType.f]
  refine Same.bindL (spec_IsValidType_ev x hs hn) (Same.bindR (impl_IsValidType_ev x hs hn) (Same.ite Iff.rfl (fun h => ?_) (fun _ => Same.ret rfl)))
  have hf : formT x = true := by
    simp only [vT, Bool.and_eq_true] at h
    exact h.2.2
  exact ⟨txT x, Ev.bind (spec_l4Text_ev x hs hn hf) (Ev.now _), Ev.bind (impl_typeText_ev x hs hn hf) (Ev.now _)⟩

end Go.Proofs.Ytkapkfobbeehkaa.Px
end
section
namespace Go.Proofs.Ytkapkfobbeehkaa.Pure
open Go.RowKit Go.Proofs.Ytkapkfobbeehkaa.Px Go.Proofs.YtkapkfobbeehkaaW.PrintWords Go.Proofs.YtkapkfobbeehkaaW.PrintLast Go.Proofs.Ytkapkfobbeehkaa.Pl
set_option linter.unusedVariables false
set_option linter.unusedSimpArgs false
theorem FnExactFormatType_all (x0 : S30) (hW0 : W30 x0) : Ev (fun k => laws_FnExactFormatType.f k x0.f0 x0.f1 x0.f2) true := by
  simp only [laws_FnExactFormatType.f]
  have hb0 : (0 : Int) ≤ (1048576 : Int) ∧ (1048576 : Int) ≤ 1048576 := ⟨by omega, by omega⟩
  refine Ev.bind (szType_ev x0 hW0 _ hb0.1 hb0.2) ?_
  by_cases hc0 : cut (wtType x0) (1048576 : Int) < 0
  · exact Ev.pos hc0 (Ev.now _)
  refine Ev.neg hc0 ?_
  have hw0 : (wtType x0 : Nat) ≤ 1048576 := by
    have := (not_congr (cut_neg (n := wtType x0))).1 hc0
    have h2 := hb0
    omega
  obtain ⟨r, h1, h2⟩ := FormatType_same (cvType x0) (smType_of x0 hW0 hw0) (by have := ndType_cv x0; omega)
  refine Ev.bind (toType_ev x0 hw0) ?_
  first | refine Ev.bind h1 ?_ | (obtain ⟨k1_, h1_⟩ := h1.rounds; refine Ev.fix h1_ ?_)
  refine Ev.bind (toType_ev x0 hw0) ?_
  first | refine Ev.bind h2 ?_ | (obtain ⟨k2_, h2_⟩ := h2.rounds; refine Ev.fix h2_ ?_)
  first | refine Ev.pos rfl ?_ | refine Ev.neg (by simp) ?_ | refine Ev.pos (by simp) ?_
  refine Ev.bind (toType_ev x0 hw0) ?_
  refine Ev.bind (eqType_ev _ (smType_of x0 hW0 hw0)) ?_
  refine Ev.pos rfl ?_
  exact Ev.now _
theorem FnExactFormatType : laws_FnExactFormatType.Pure := by
  intro v0_0 v0_1 v0_2 h0
  exact (FnExactFormatType_all ⟨v0_0, v0_1, v0_2⟩ h0).rounds
end Go.Proofs.Ytkapkfobbeehkaa.Pure
end
section
namespace Go.Proofs.Ytkapkfobbeehkaa.Rd
open Go.RowKit Go.Proofs.YtkapkfobbeehkaaW.PrintWords
set_option linter.unusedVariables false
/-- What reads as_ data of type t, by at most n steps, is of kind d and meets q. -/
def Op (P : Program) (n : Nat) (t : TypeId) {α : Type} (d : Kd α) (q : α → Prop) : Prop :=
  ∀ (H : Type) (enc : TypeId × Value → H) (w : World) (base : Nat) (spare : Nat → Bool) (held : Bool) (fuel : Nat) (cs : List Value) (x : DataW H × List MemPlace),
    fuel ≤ n → DataW.trod enc P w base spare held fuel t cs = some x → ∃ y, d.K w y cs ∧ q y
theorem Op.imp {P : Program} {n : Nat} {t : TypeId} {α : Type} {d d' : Kd α} {q q' : α → Prop} (h1 : ∀ w y cs, d.K w y cs → d'.K w y cs) (h2 : ∀ y, q y → q' y) (h : Op P n t d q) : Op P n t d' q' := by
  intro H enc w base spare held fuel cs x hf hx
  obtain ⟨y, hy, hq⟩ := h H enc w base spare held fuel cs x hf hx
  exact ⟨y, h1 _ _ _ hy, h2 _ hq⟩
theorem Op.iso {P : Program} {n : Nat} {t : TypeId} {α β : Type} {d : Kd α} {q : α → Prop} {f : β → α} (g : α → β) (hg : ∀ y, f (g y) = y) (h : Op P n t d q) : Op P n t (Kd.iso d f) (fun x => q (f x)) := by
  intro H enc w base spare held fuel cs x hf hx
  obtain ⟨y, hy, hq⟩ := h H enc w base spare held fuel cs x hf hx
  refine ⟨g y, ?_, ?_⟩
  · show d.K w (f (g y)) cs
    rw [hg]; exact hy
  · show q (f (g y))
    rw [hg]; exact hq
theorem Op.int {P : Program} {n : Nat} {t : TypeId} {k : IntKind} (ht : P.underlying t = some (.int k)) : Op P n t (Kd.int k) (fun x => (Lit.int k x).wf = true) := by
  intro H enc w base spare held fuel cs x hf hx
  obtain ⟨m, rfl, rfl, hw⟩ := DataW.trod_int ht hx
  exact ⟨m, rfl, hw⟩
theorem Op.bool {P : Program} {n : Nat} {t : TypeId} (ht : P.underlying t = some .bool) : Op P n t Kd.bool (fun _ => True) := by
  intro H enc w base spare held fuel cs x hf hx
  obtain ⟨m, rfl, rfl⟩ := DataW.trod_bool ht hx
  exact ⟨m, rfl, trivial⟩
theorem trod_string' {H : Type} {enc : TypeId × Value → H} {P : Program} {w : World} {base : Nat} {spare : Nat → Bool} {held : Bool} {fuel : Nat} {t : TypeId} {cs : List Value} {x : DataW H × List MemPlace}
    (ht : P.underlying t = some .string) (h : DataW.trod enc P w base spare held fuel t cs = some x) : ∃ s, cs = [.string s] ∧ s.size ≤ maxLen := by
  cases fuel with
  | zero => simp [DataW.trod] at h
  | succ n =>
    unfold DataW.trod at h
    rw [ht] at h
    split at h <;> simp_all
theorem Op.string {P : Program} {n : Nat} {t : TypeId} (ht : P.underlying t = some .string) : Op P n t Kd.string (fun s => s.size ≤ maxLen) := by
  intro H enc w base spare held fuel cs x hf hx
  obtain ⟨m, rfl, hm⟩ := trod_string' ht hx
  exact ⟨m, rfl, hm⟩
theorem add_add (a : Addr) (i j : Nat) : (a.add i).add j = a.add (i + j) := by
  unfold Addr.add
  by_cases h1 : i = 0 <;> by_cases h2 : j = 0 <;> simp [h1, h2, Nat.add_assoc]
theorem choose_list {α : Type} {p : Nat → α → Prop} (n : Nat) (h : ∀ i, i < n → ∃ y, p i y) : ∃ ys : List α, ys.length = n ∧ ∀ i y, ys[i]? = some y → p i y := by
  induction n with
  | zero => exact ⟨[], rfl, fun i y hy => by simp at hy⟩
  | succ n ih =>
    obtain ⟨ys, hl, hy⟩ := ih (fun i hi => h i (by omega))
    obtain ⟨z, hz⟩ := h n (by omega)
    refine ⟨ys ++ [z], by simp [hl], fun i y hi => ?_⟩
    by_cases hlt : i < n
    · rw [List.getElem?_append_left (by omega)] at hi
      exact hy i y hi
    · by_cases he : i = n
      · subst he
        rw [List.getElem?_append_right (by omega)] at hi
        simp [hl] at hi
        subst hi
        exact hz
      · rw [List.getElem?_eq_none (by simp; omega)] at hi
        cases hi
theorem Op.slice {P : Program} {n : Nat} {t e : TypeId} {α : Type} {d : Kd α} {q : α → Prop} (ht : P.underlying t = some (.slice e)) (hsz : P.cellsOf e = d.sz) (h : ∀ k, k < n → Op P k e d q) :
    Op P n t (Kd.slice e d) (fun xs => xs.length ≤ maxLen ∧ ∀ y ∈ xs, q y) := by
  intro H enc w base spare held fuel cs x hf hx
  rcases DataW.trod_slice ht hx with ⟨rfl, _⟩ | ⟨a, len, cap, elems, rest, m, hm, rfl, _, hb, hl, hc, hlen, hel, _, _⟩
  · exact ⟨[], ⟨none, 0, rfl, Nat.le_refl _, ⟨rfl, by simp, fun hp => absurd hp (by simp)⟩⟩, by simp, fun y hy => by simp at hy⟩
  · have hone : ∀ i, i < len → ∃ y, (∃ c, c.length = d.sz ∧ d.K w y c ∧ ∀ j u, c[j]? = some u → w.cell? (a.add (i * d.sz + j)) = some u) ∧ q y := by
      intro i hi
      have h1 := hel i hi
      rw [List.getElem?_eq_getElem (by omega)] at h1
      obtain ⟨c, hc1, hc2⟩ := Option.bind_eq_some_iff.1 h1
      obtain ⟨y, hy, hq⟩ := h m (by omega) H enc w base spare held m c _ (Nat.le_refl _) hc2
      obtain ⟨_, hcl, hcells⟩ := World.cells?_some hc1
      refine ⟨y, ⟨c, by omega, hy, fun j u hu => ?_⟩, hq⟩
      have hj : j < P.cellsOf e := by
        rw [← hcl]
        exact (List.getElem?_eq_some_iff.1 hu).1
      have := hcells j hj
      rw [add_add, hsz] at this
      rw [this, hu]
    obtain ⟨ys, hyl, hys⟩ := choose_list len hone
    have hmx : len ≤ 9223372036854775807 := by
      have : cap ≤ 9223372036854775807 := hc
      omega
    refine ⟨ys, ⟨some a, cap, by rw [hyl], by omega, ⟨rfl, by omega, fun _ => ⟨a, rfl, fun j p hj => (hys j p hj).1⟩⟩⟩, by rw [hyl]; exact hmx, fun y hy => ?_⟩
    obtain ⟨i, hi, rfl⟩ := List.getElem_of_mem hy
    exact (hys i _ (List.getElem?_eq_getElem hi)).2
/-- Fields, from an offset on. -/
def OpF (P : Program) (n : Nat) (fs : List Field) (off : Nat) {α : Type} (d : Kd α) (q : α → Prop) : Prop :=
  ∀ (H : Type) (enc : TypeId × Value → H) (w : World) (base : Nat) (spare : Nat → Bool) (held : Bool) (fuel : Nat) (cs : List Value), fuel ≤ n →
    (∀ f ∈ fs, ∃ x, DataW.trod enc P w base spare held fuel f.type ((cs.drop f.offset).take (P.cellsOf f.type)) = some x) → cs.length = off + d.sz → ∃ y, d.K w y (cs.drop off) ∧ q y
theorem OpF.one {P : Program} {n : Nat} {f : Field} {off : Nat} {α : Type} {d : Kd α} {q : α → Prop} (ho : f.offset = off) (hsz : P.cellsOf f.type = d.sz) (h : Op P n f.type d q) : OpF P n [f] off d q := by
  intro H enc w base spare held fuel cs hf hx hl
  obtain ⟨x, hx⟩ := hx f (List.mem_singleton.2 rfl)
  rw [ho, hsz, List.take_of_length_le (by rw [List.length_drop]; omega)] at hx
  exact h H enc w base spare held fuel _ x hf hx
theorem OpF.cons {P : Program} {n : Nat} {f : Field} {fs : List Field} {off : Nat} {α β : Type} {a : Kd α} {b : Kd β} {qa : α → Prop} {qb : β → Prop} (ho : f.offset = off) (hsz : P.cellsOf f.type = a.sz) (h : Op P n f.type a qa) (hr : OpF P n fs (off + a.sz) b qb) :
    OpF P n (f :: fs) off (Kd.pair a b) (fun y => qa y.1 ∧ qb y.2) := by
  intro H enc w base spare held fuel cs hf hx hl
  have hl' : cs.length = off + (a.sz + b.sz) := hl
  obtain ⟨x, h1⟩ := hx f (List.mem_cons_self ..)
  rw [ho, hsz] at h1
  obtain ⟨y, hy, hq⟩ := h H enc w base spare held fuel _ x hf h1
  obtain ⟨z, hz, hq2⟩ := hr H enc w base spare held fuel cs hf (fun g hg => hx g (List.mem_cons_of_mem _ hg)) (by omega)
  refine ⟨(y, z), ⟨_, _, ?_, hy, hz⟩, hq, hq2⟩
  rw [← List.drop_drop, List.take_append_drop]
theorem Op.struct {P : Program} {n : Nat} {t : TypeId} {fs : Array Field} {α : Type} {d : Kd α} {q : α → Prop} (ht : P.underlying t = some (.struct fs)) (hsz : P.cellsOf t = d.sz) (h : ∀ k, k < n → OpF P k fs.toList 0 d q) : Op P n t d q := by
  intro H enc w base spare held fuel cs x hf hx
  obtain ⟨xs, m, hm, _, hl, hxl, hfs⟩ := DataW.trod_struct ht hx
  have hr := h m (by omega) H enc w base spare held m cs (Nat.le_refl _) (fun f hfm => ?_) (by omega)
  · simpa using hr
  · obtain ⟨i, hi, rfl⟩ := List.getElem_of_mem hfm
    have hi' : i < fs.size := by simpa using hi
    have h2 := hfs i _ (Array.getElem?_eq_getElem hi')
    rw [List.getElem?_eq_getElem (by omega)] at h2
    exact ⟨_, by simpa using h2⟩
/-- The same at whatever fuel. -/
theorem Op.open_ {P : Program} {t : TypeId} {α : Type} {d : Kd α} {q : α → Prop} (h : ∀ n, Op P n t d q) {H : Type} {enc : TypeId × Value → H} {w : World} {base : Nat} {spare : Nat → Bool} {held : Bool} {v : Value} {x : DataW H} {ps : List MemPlace}
    (ht : DataW.Trod enc P w base spare held t v x ps) : ∃ y, d.K w y v.cells.toList ∧ q y := by
  obtain ⟨fuel, hf⟩ := ht
  exact h fuel H enc w base spare held fuel _ _ (Nat.le_refl _) hf
end Go.Proofs.Ytkapkfobbeehkaa.Rd
end
section
namespace Go.Proofs.Ytkapkfobbeehkaa.Px
open Go.RowKit Go.Proofs.Ytkapkfobbeehkaa.Ext Go.Proofs.YtkapkfobbeehkaaW.PrintWords Go.Proofs.YtkapkfobbeehkaaW.PrintLast Go.Proofs.YtkapkfobbeehkaaW.PrintMore Go.Proofs.Ytkapkfobbeehkaa
set_option linter.unusedVariables false
set_option linter.unusedSimpArgs false

theorem fold30 : ∀ (w : World) (x : S30) (cs : List Value), (F30 k30).K w x cs → k30.K w x cs := by
  intro w x cs h
  obtain ⟨_, _, rfl, rfl, ⟨_, _, rfl, ⟨A1, c1, rfl, l1, g1⟩, ⟨A2, c2, rfl, l2, g2⟩⟩⟩ := h
  exact k30_mk w x l1 g1 l2 g2
theorem op30 : ∀ n, Rd.Op Try.prog n 30 k30 W30 := by
  intro n
  induction n using Nat.strongRecOn with
  | _ n ih =>
  exact Rd.Op.imp (d := F30 k30) fold30 (fun x h => W30.mk h.1 h.2.1 h.2.2.1 h.2.2.2) (Rd.Op.iso (g := fun p => ⟨p.1, p.2.1, p.2.2⟩) (fun _ => rfl) (Rd.Op.struct Try.underlying30 (by kernel_rfl) (fun j0 hj0 => (Rd.OpF.cons rfl (by kernel_rfl) (Rd.Op.int Try.underlying3) (Rd.OpF.cons rfl (by kernel_rfl) (Rd.Op.slice Try.underlying22 (by kernel_rfl) (fun j1 hj1 => (Rd.Op.string Try.underlying9))) (Rd.OpF.one rfl (by kernel_rfl) (Rd.Op.slice Try.underlying28 (by kernel_rfl) (fun j1 hj1 => ih j1 (by omega)))))))))
end Go.Proofs.Ytkapkfobbeehkaa.Px
end
