/- IsName of the program and of the reference come to the same plain function isName. No condition beyond the size named. -/
import Derived.Test.YtljinkdlmfcikaaPx1
import Derived.Test.YtljinkdlmfcikaaPx2
import Derived.Test.YtljinkdlmfcikaaPl
namespace Go.Proofs.Ytljinkdlmfcikaa.Px
open Go.RowKit Go.Proofs.YtljinkdlmfcikaaW.PrintWords Go.Proofs.YtljinkdlmfcikaaW.PrintLast Go.Proofs.Ytljinkdlmfcikaa.Pl
set_option linter.unusedVariables false
set_option linter.unusedSimpArgs false
def small (c : Int) : Bool := decide (97 ≤ c) && decide (c ≤ 122)
def dig (c : Int) : Bool := decide (48 ≤ c) && decide (c ≤ 57)
def chkS (s : ByteArray) : Nat → Nat → Bool
  | _, 0 => true
  | i, m + 1 => (small (bt s i) || (i != 0 && dig (bt s i))) && chkS s (i + 1) m
def chkI (s : ByteArray) : Nat → Nat → Bool
  | _, 0 => true
  | i, m + 1 => (small (bt s i) || dig (bt s i)) && chkI s (i + 1) m
def isName (s : ByteArray) : Bool := chkS s 0 s.size && (decide (1 ≤ s.size ∧ s.size ≤ 4) && (s.toList != ([105, 102] : List UInt8) && s.toList != ([102, 111, 114] : List UInt8)))
theorem chk_later (s : ByteArray) : ∀ m i, i ≠ 0 → chkI s i m = chkS s i m := by
  intro m
  induction m with
  | zero => intro i h; rfl
  | succ m ih =>
    intro i h
    simp only [chkI, chkS]
    rw [ih (i + 1) (by omega)]
    have : (i != 0) = true := by simpa using h
    rw [this, Bool.true_and]
theorem isSmall_eq (c : Int) : impl_isSmall.f c = some (small c) := by
  unfold impl_isSmall.f small
  split
  · rename_i h; simp [show (97 : Int) ≤ c from h]
  · rename_i h; simp [show ¬ (97 : Int) ≤ c from h]
theorem isDigit_eq (c : Int) : impl_isDigit.f c = some (dig c) := by
  unfold impl_isDigit.f dig
  split
  · rename_i h; simp [show (48 : Int) ≤ c from h]
  · rename_i h; simp [show ¬ (48 : Int) ≤ c from h]
theorem small_pos {c : Int} (h : 97 ≤ c) (h2 : c ≤ 122) : small c = true := by simp [small, h, h2]
theorem small_neg {c : Int} (h : ¬ (97 ≤ c ∧ c ≤ 122)) : small c = false := by
  unfold small
  by_cases h1 : 97 ≤ c
  · by_cases h2 : c ≤ 122
    · exact absurd ⟨h1, h2⟩ h
    · simp [h2]
  · simp [h1]
theorem dig_pos {c : Int} (h : 48 ≤ c) (h2 : c ≤ 57) : dig c = true := by simp [dig, h, h2]
theorem dig_neg {c : Int} (h : ¬ (48 ≤ c ∧ c ≤ 57)) : dig c = false := by
  unfold dig
  by_cases h1 : 48 ≤ c
  · by_cases h2 : c ≤ 57
    · exact absurd ⟨h1, h2⟩ h
    · simp [h2]
  · simp [h1]
theorem spec_IsName_ev (s : ByteArray) (hs : s.size ≤ 1048576) : Ev (fun k => spec_IsName.f k s) (isName s) := by
  have hend : Ev (fun (k : Nat) => ((spec_l1In.f (s.size : Int) 1 4).bind fun t => (if t = true then (if s.toList = ([105, 102] : List UInt8) then (some false) else (some (s.toList != ([102, 111, 114] : List UInt8)))) else (some false)))) (decide (1 ≤ s.size ∧ s.size ≤ 4) && (s.toList != ([105, 102] : List UInt8) && s.toList != ([102, 111, 114] : List UInt8))) := by
    refine ⟨0, fun k _ => ?_⟩
    unfold spec_l1In.f
    by_cases h1 : 1 ≤ s.size
    · by_cases h2 : s.size ≤ 4
      · rw [if_pos (by omega), Option.bind_some, if_pos (by simpa using (by omega : (s.size : Int) ≤ 4))]
        by_cases h3 : s.toList = ([105, 102] : List UInt8)
        · rw [if_pos h3]; simp [h3]
        · rw [if_neg h3]
          have : (s.toList != ([105, 102] : List UInt8)) = true := by simpa using h3
          rw [this]; simp [h1, h2]
      · rw [if_pos (by omega), Option.bind_some, if_neg (by simpa using (by omega : (4 : Int) < s.size))]
        simp [h2]
    · rw [if_neg (by omega), Option.bind_some, if_neg (by simp)]
      simp [h1]
  suffices h : ∀ m i, i + m = s.size → Ev (fun k => spec_IsName.l0 k s (i : Int)) (chkS s i m && (decide (1 ≤ s.size ∧ s.size ≤ 4) && (s.toList != ([105, 102] : List UInt8) && s.toList != ([102, 111, 114] : List UInt8)))) from h s.size 0 (by omega)
  intro m
  induction m with
  | zero =>
    intro i hi
    refine Ev.up ?_
    simp only [spec_IsName.l0]
    exact Ev.neg (by omega) (Ev.eq hend (by simp [chkS]))
  | succ m ih =>
    intro i hi
    refine Ev.up ?_
    simp only [spec_IsName.l0, chkS]
    rw [w1' (n := s.size) (by omega) hs]
    have hr := ih (i + 1) (by omega)
    have hdig : ∀ (hsm : small (bt s (i : Int)) = false), Ev (fun k => if (i : Int) = 0 then some false else if bt s (i : Int) < 48 then some false else if bt s (i : Int) > 57 then some false else spec_IsName.l0 k s ((i + 1 : Nat) : Int)) ((small (bt s (i : Int)) || (i != 0 && dig (bt s (i : Int)))) && chkS s (i + 1) m && (decide (1 ≤ s.size ∧ s.size ≤ 4) && (s.toList != ([105, 102] : List UInt8) && s.toList != ([102, 111, 114] : List UInt8)))) := by
      intro hsm
      rw [hsm, Bool.false_or]
      refine Ev.cases (fun h0 => ?_) (fun h0 => Ev.cases (fun h1 => ?_) (fun h1 => Ev.cases (fun h2 => ?_) (fun h2 => ?_)))
      · obtain rfl : i = 0 := by omega
        exact Ev.const (by simp)
      · rw [dig_neg (by omega)]; exact Ev.const (by simp)
      · rw [dig_neg (by omega)]; exact Ev.const (by simp)
      · rw [dig_pos (by omega) (by omega)]
        have hi0 : (i != 0) = true := by simpa using (show i ≠ 0 by omega)
        exact Ev.eq hr (by rw [hi0, Bool.true_and, Bool.true_and])
    refine Ev.pos (by omega) (Ev.pos (by omega) (Ev.cases (fun h1 => Ev.cases (fun h2 => ?_) (fun h2 => hdig (small_neg (by omega)))) (fun h1 => hdig (small_neg (by omega)))))
    rw [small_pos (by omega) h2, Bool.true_or, Bool.true_and]
    exact hr
theorem impl_IsName_ev (s : ByteArray) (hs : s.size ≤ 1048576) : Ev (fun k => impl_IsName.f k s) (isName s) := by
  have hl : ∀ m i, i + m = s.size → Ev (fun k => impl_IsName.l0 k s (s.size : Int) (i : Int)) (chkI s i m) := by
    intro m
    induction m with
    | zero =>
      intro i hi
      refine Ev.up ?_
      simp only [impl_IsName.l0]
      exact Ev.neg (by omega) (Ev.now _)
    | succ m ih =>
      intro i hi
      refine Ev.up ?_
      simp only [impl_IsName.l0, chkI]
      rw [w1' (n := s.size) (by omega) hs]
      refine Ev.pos (by omega) (Ev.pos (by omega) (Ev.pos (by omega) (Ev.fix (isSmall_eq _) ?_)))
      refine Ev.cases (fun h1 => ?_) (fun h1 => Ev.fix (isDigit_eq _) (Ev.cases (fun h2 => ?_) (fun h2 => ?_)))
      · rw [h1, Bool.true_or, Bool.true_and]; exact ih (i + 1) (by omega)
      · rw [h2, Bool.or_true, Bool.true_and]; exact ih (i + 1) (by omega)
      · rw [Bool.eq_false_iff.2 h1, Bool.eq_false_iff.2 h2]; exact Ev.const (by simp)
  have hj : ∀ b, Ev (fun k => impl_IsName.j0 k s b) (!b && chkI s 0 s.size) := by
    intro b
    refine Ev.up ?_
    simp only [impl_IsName.j0]
    refine Ev.cases (fun h => ?_) (fun h => ?_)
    · rw [h]; exact Ev.const (by simp)
    · rw [Bool.eq_false_iff.2 h]; exact Ev.eq (hl s.size 0 (by omega)) (by simp)
  have hjt : Ev (fun k => impl_IsName.j0 k s true) false := Ev.eq (hj true) (by simp)
  have hfail : ¬ (1 ≤ s.size ∧ s.size ≤ 4) → isName s = false := by intro h; simp only [isName]; rw [decide_eq_false h]; simp
  simp only [impl_IsName.f]
  refine Ev.cases (fun h1 => ?_) (fun h1 => Ev.cases (fun h2 => ?_) (fun h2 => Ev.pos (by omega) (Ev.fix (isSmall_eq _) ?_)))
  · rw [hfail (by omega)]; exact hjt
  · rw [hfail (by omega)]; exact hjt
  · obtain ⟨n, hn⟩ : ∃ n, s.size = n + 1 := ⟨s.size - 1, by omega⟩
    have hc : isName s = ((small (bt s 0) && chkS s 1 n) && (s.toList != ([105, 102] : List UInt8) && s.toList != ([102, 111, 114] : List UInt8))) := by
      simp only [isName]
      rw [decide_eq_true (show 1 ≤ s.size ∧ s.size ≤ 4 by omega), Bool.true_and, hn]
      simp [chkS]
    rw [hc]
    refine Ev.cases (fun h3 => ?_) (fun h3 => ?_)
    · have hk : chkI s 0 s.size = chkS s 1 n := by
        rw [hn]
        simp only [chkI]
        rw [chk_later s n (0 + 1) (by omega)]
        rw [show small (bt s ((0 : Nat) : Int)) = true from h3, Bool.true_or, Bool.true_and]
      rw [h3, Bool.true_and]
      refine Ev.cases (fun h4 => ?_) (fun h4 => ?_)
      · rw [h4]; exact Ev.eq hjt (by simp)
      · have h4' : (s.toList != ([105, 102] : List UInt8)) = true := by simpa using h4
        refine Ev.eq (hj _) ?_
        rw [hk, h4', Bool.true_and, Bool.and_comm]
        rfl
    · rw [Bool.eq_false_iff.2 h3]; exact Ev.eq hjt (by simp)
theorem IsName_same (s : ByteArray) (hs : s.size ≤ 1048576) : ∃ r, Ev (fun k => spec_IsName.f k s) r ∧ Ev (fun k => impl_IsName.f k s) r := ⟨_, spec_IsName_ev s hs, impl_IsName_ev s hs⟩

end Go.Proofs.Ytljinkdlmfcikaa.Px
