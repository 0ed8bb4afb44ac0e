/- IsName of the program and of the reference come to the same plain function isName. No condition beyond the size named. -/
import Derived.Test.YtkapkfobbeehkaaDoorZFormatValuePx4M
import Derived.Test.YtkapkfobbeehkaaDoorZFormatValuePx7
import Derived.Test.YtkapkfobbeehkaaDoorZFormatValuePx8M
import Derived.Test.YtkapkfobbeehkaaDoorZFormatValuePx12M
import Derived.Test.YtkapkfobbeehkaaDoorZFormatValueWLastM
import Derived.Test.YtkapkfobbeehkaaDoorZFormatValuePx6
import Derived.Test.YtkapkfobbeehkaaDoorZFormatValuePx10M
import Derived.Test.YtkapkfobbeehkaaDoorZFormatValueWWords
import Derived.Deep.Slices
import Derived.ChangeArms
import Derived.DataReads
import Derived.Test.YtkapkfobbeehkaaDoorRows
import Derived.WalkKit
import Derived.ProofKit
import Derived.OpenShut
import Derived.ShutString
import Derived.ChangeOld
import Derived.Below
import Derived.SizedLaws
import Derived.ChangeSame
import Derived.ChangeVars
import Derived.JoinedOf
import Derived.RowKitTokens
import Derived.LaidLaws
import Derived.LaidHandle
import Derived.LaidSub
import Derived.Stop.Joined
import Derived.ChangeSlices
section
namespace Go.Proofs.YtkapkfobbeehkaaDoor.Px
open Go.RowKit Go.Proofs.YtkapkfobbeehkaaDoorW.PrintWords Go.Proofs.YtkapkfobbeehkaaDoorW.PrintLast Go.Proofs.YtkapkfobbeehkaaDoor.Pl Go.Proofs.YtkapkfobbeehkaaDoor.Ext
set_option linter.unusedVariables false
set_option linter.unusedSimpArgs false
def small (c : Int) : Bool := decide (97 ≤ c) && decide (c ≤ 122)
def dig (c : Int) : Bool := decide (48 ≤ c) && decide (c ≤ 57)
def chkS (s : ByteArray) : Nat → Nat → Bool
  | _, 0 => true
  | i, m + 1 => (small (bt s i) || (i != 0 && dig (bt s i))) && chkS s (i + 1) m
def chkI (s : ByteArray) : Nat → Nat → Bool
  | _, 0 => true
  | i, m + 1 => (small (bt s i) || dig (bt s i)) && chkI s (i + 1) m
def isName (s : ByteArray) : Bool := chkS s 0 s.size && (decide (1 ≤ s.size ∧ s.size ≤ 4) && (s.toList != ([105, 102] : List UInt8) && s.toList != ([102, 111, 114] : List UInt8)))
theorem chk_later (s : ByteArray) : ∀ m i, i ≠ 0 → chkI s i m = chkS s i m := by
  intro m
  induction m with
  | zero => intro i h; rfl
  | succ m ih =>
    intro i h
    simp only [chkI, chkS]
    rw [ih (i + 1) (by omega)]
    have : (i != 0) = true := by simpa using h
    rw [this, Bool.true_and]
theorem isSmall_eq (c : Int) : impl_isSmall.f c = some (small c) := by
  unfold impl_isSmall.f small
  split
  · rename_i h; simp [show (97 : Int) ≤ c from h]
  · rename_i h; simp [show ¬ (97 : Int) ≤ c from h]
theorem isDigit_eq (c : Int) : impl_isDigit.f c = some (dig c) := by
  unfold impl_isDigit.f dig
  split
  · rename_i h; simp [show (48 : Int) ≤ c from h]
  · rename_i h; simp [show ¬ (48 : Int) ≤ c from h]
theorem small_pos {c : Int} (h : 97 ≤ c) (h2 : c ≤ 122) : small c = true := by simp [small, h, h2]
theorem small_neg {c : Int} (h : ¬ (97 ≤ c ∧ c ≤ 122)) : small c = false := by
  unfold small
  by_cases h1 : 97 ≤ c
  · by_cases h2 : c ≤ 122
    · exact absurd ⟨h1, h2⟩ h
    · simp [h2]
  · simp [h1]
theorem dig_pos {c : Int} (h : 48 ≤ c) (h2 : c ≤ 57) : dig c = true := by simp [dig, h, h2]
theorem dig_neg {c : Int} (h : ¬ (48 ≤ c ∧ c ≤ 57)) : dig c = false := by
  unfold dig
  by_cases h1 : 48 ≤ c
  · by_cases h2 : c ≤ 57
    · exact absurd ⟨h1, h2⟩ h
    · simp [h2]
  · simp [h1]
theorem spec_IsName_ev (s : ByteArray) (hs : s.size ≤ 1048576) : Ev (fun k => spec_IsName.f k s) (isName s) := by
  have hend : Ev (fun (k : Nat) => ((spec_l1In.f (s.size : Int) 1 4).bind fun t => (if t = true then (if s.toList = ([105, 102] : List UInt8) then (some false) else (some (s.toList != ([102, 111, 114] : List UInt8)))) else (some false)))) (decide (1 ≤ s.size ∧ s.size ≤ 4) && (s.toList != ([105, 102] : List UInt8) && s.toList != ([102, 111, 114] : List UInt8))) := by
    refine ⟨0, fun k _ => ?_⟩
    unfold spec_l1In.f
    by_cases h1 : 1 ≤ s.size
    · by_cases h2 : s.size ≤ 4
      · rw [if_pos (by omega), Option.bind_some, if_pos (by simpa using (by omega : (s.size : Int) ≤ 4))]
        by_cases h3 : s.toList = ([105, 102] : List UInt8)
        · rw [if_pos h3]; simp [h3]
        · rw [if_neg h3]
          have : (s.toList != ([105, 102] : List UInt8)) = true := by simpa using h3
          rw [this]; simp [h1, h2]
      · rw [if_pos (by omega), Option.bind_some, if_neg (by simpa using (by omega : (4 : Int) < s.size))]
        simp [h2]
    · rw [if_neg (by omega), Option.bind_some, if_neg (by simp)]
      simp [h1]
  suffices h : ∀ m i, i + m = s.size → Ev (fun k => spec_IsName.l0 k s (i : Int)) (chkS s i m && (decide (1 ≤ s.size ∧ s.size ≤ 4) && (s.toList != ([105, 102] : List UInt8) && s.toList != ([102, 111, 114] : List UInt8)))) from h s.size 0 (by omega)
  intro m
  induction m with
  | zero =>
    intro i hi
    refine Ev.up ?_
    simp only [spec_IsName.l0]
    exact Ev.neg (by omega) (Ev.eq hend (by simp [chkS]))
  | succ m ih =>
    intro i hi
    refine Ev.up ?_
    simp only [spec_IsName.l0, chkS]
    rw [w1' (n := s.size) (by omega) hs]
    have hr := ih (i + 1) (by omega)
    have hdig : ∀ (hsm : small (bt s (i : Int)) = false), Ev (fun k => if (i : Int) = 0 then some false else if bt s (i : Int) < 48 then some false else if bt s (i : Int) > 57 then some false else spec_IsName.l0 k s ((i + 1 : Nat) : Int)) ((small (bt s (i : Int)) || (i != 0 && dig (bt s (i : Int)))) && chkS s (i + 1) m && (decide (1 ≤ s.size ∧ s.size ≤ 4) && (s.toList != ([105, 102] : List UInt8) && s.toList != ([102, 111, 114] : List UInt8)))) := by
      intro hsm
      rw [hsm, Bool.false_or]
      refine Ev.cases (fun h0 => ?_) (fun h0 => Ev.cases (fun h1 => ?_) (fun h1 => Ev.cases (fun h2 => ?_) (fun h2 => ?_)))
      · obtain rfl : i = 0 := by omega
        exact Ev.const (by simp)
      · rw [dig_neg (by omega)]; exact Ev.const (by simp)
      · rw [dig_neg (by omega)]; exact Ev.const (by simp)
      · rw [dig_pos (by omega) (by omega)]
        have hi0 : (i != 0) = true := by simpa using (show i ≠ 0 by omega)
        exact Ev.eq hr (by rw [hi0, Bool.true_and, Bool.true_and])
    refine Ev.pos (by omega) (Ev.pos (by omega) (Ev.cases (fun h1 => Ev.cases (fun h2 => ?_) (fun h2 => hdig (small_neg (by omega)))) (fun h1 => hdig (small_neg (by omega)))))
    rw [small_pos (by omega) h2, Bool.true_or, Bool.true_and]
    exact hr
theorem impl_IsName_ev (s : ByteArray) (hs : s.size ≤ 1048576) : Ev (fun k => impl_IsName.f k s) (isName s) := by
  have hl : ∀ m i, i + m = s.size → Ev (fun k => impl_IsName.l0 k s (s.size : Int) (i : Int)) (chkI s i m) := by
    intro m
    induction m with
    | zero =>
      intro i hi
      refine Ev.up ?_
      simp only [impl_IsName.l0]
      exact Ev.neg (by omega) (Ev.now _)
    | succ m ih =>
      intro i hi
      refine Ev.up ?_
      simp only [impl_IsName.l0, chkI]
      rw [w1' (n := s.size) (by omega) hs]
      refine Ev.pos (by omega) (Ev.pos (by omega) (Ev.pos (by omega) (Ev.fix (isSmall_eq _) ?_)))
      refine Ev.cases (fun h1 => ?_) (fun h1 => Ev.fix (isDigit_eq _) (Ev.cases (fun h2 => ?_) (fun h2 => ?_)))
      · rw [h1, Bool.true_or, Bool.true_and]; exact ih (i + 1) (by omega)
      · rw [h2, Bool.or_true, Bool.true_and]; exact ih (i + 1) (by omega)
      · rw [Bool.eq_false_iff.2 h1, Bool.eq_false_iff.2 h2]; exact Ev.const (by simp)
  have hj : ∀ b, Ev (fun k => impl_IsName.j0 k s b) (!b && chkI s 0 s.size) := by
    intro b
    refine Ev.up ?_
    simp only [impl_IsName.j0]
    refine Ev.cases (fun h => ?_) (fun h => ?_)
    · rw [h]; exact Ev.const (by simp)
    · rw [Bool.eq_false_iff.2 h]; exact Ev.eq (hl s.size 0 (by omega)) (by simp)
  have hjt : Ev (fun k => impl_IsName.j0 k s true) false := Ev.eq (hj true) (by simp)
  have hfail : ¬ (1 ≤ s.size ∧ s.size ≤ 4) → isName s = false := by intro h; simp only [isName]; rw [decide_eq_false h]; simp
  simp only [impl_IsName.f]
  refine Ev.cases (fun h1 => ?_) (fun h1 => Ev.cases (fun h2 => ?_) (fun h2 => Ev.pos (by omega) (Ev.fix (isSmall_eq _) ?_)))
  · rw [hfail (by omega)]; exact hjt
  · rw [hfail (by omega)]; exact hjt
  · obtain ⟨n, hn⟩ : ∃ n, s.size = n + 1 := ⟨s.size - 1, by omega⟩
    have hc : isName s = ((small (bt s 0) && chkS s 1 n) && (s.toList != ([105, 102] : List UInt8) && s.toList != ([102, 111, 114] : List UInt8))) := by
      simp only [isName]
      rw [decide_eq_true (show 1 ≤ s.size ∧ s.size ≤ 4 by omega), Bool.true_and, hn]
      simp [chkS]
    rw [hc]
    refine Ev.cases (fun h3 => ?_) (fun h3 => ?_)
    · have hk : chkI s 0 s.size = chkS s 1 n := by
        rw [hn]
        simp only [chkI]
        rw [chk_later s n (0 + 1) (by omega)]
        rw [show small (bt s ((0 : Nat) : Int)) = true from h3, Bool.true_or, Bool.true_and]
      rw [h3, Bool.true_and]
      refine Ev.cases (fun h4 => ?_) (fun h4 => ?_)
      · rw [h4]; exact Ev.eq hjt (by simp)
      · have h4' : (s.toList != ([105, 102] : List UInt8)) = true := by simpa using h4
        refine Ev.eq (hj _) ?_
        rw [hk, h4', Bool.true_and, Bool.and_comm]
        rfl
    · rw [Bool.eq_false_iff.2 h3]; exact Ev.eq hjt (by simp)
end Go.Proofs.YtkapkfobbeehkaaDoor.Px
end
section
namespace Go.Proofs.YtkapkfobbeehkaaDoor.Px
open Go.RowKit Go.Proofs.YtkapkfobbeehkaaDoorW.PrintWords Go.Proofs.YtkapkfobbeehkaaDoorW.PrintLast Go.Proofs.YtkapkfobbeehkaaDoor.Pl Go.Proofs.YtkapkfobbeehkaaDoor.Ext
set_option linter.unusedVariables false
set_option linter.unusedSimpArgs false
/-- The texts of a list, joined. -/
def joinL (xs : List ByteArray) (s : ByteArray) : List UInt8 := Lib.join (xs.map (·.data.toList)) s.data.toList
def joinB (xs : List ByteArray) (s : ByteArray) : ByteArray := ⟨(joinL xs s).toArray⟩
/-- Bytes as_ numbers. -/
def nu (l : List UInt8) : List Int := l.map fun b => (b.toNat : Int)
theorem bytesOf_nu (s : ByteArray) : bytesOf s = nu s.data.toList := rfl
theorem nu_append (a b : List UInt8) : nu (a ++ b) = nu a ++ nu b := by simp [nu]
theorem nu_length (a : List UInt8) : (nu a).length = a.length := by simp [nu]
theorem strOfNums_nu (l : List UInt8) : strOfNums (nu l) = ⟨l.toArray⟩ := by
  have : (nu l).map (fun n => UInt8.ofNat n.toNat) = l := by
    induction l with
    | nil => rfl
    | cons b r ih =>
      simp only [nu, List.map_cons, Int.toNat_natCast, UInt8.ofNat_toNat] at ih ⊢
      rw [ih]
  rw [strOfNums, this]
theorem szs_lens (xs : List ByteArray) : Lib.lens (xs.map (·.data.toList)) = szs xs := by
  induction xs with
  | nil => rfl
  | cons x r ih =>
    simp only [Lib.lens, szs, List.map_cons, List.sum_cons] at ih ⊢
    rw [ih, data_length]
theorem joinL_length (xs : List ByteArray) (s : ByteArray) : (joinL xs s).length ≤ szs xs + xs.length * s.size := by
  cases xs with
  | nil => simp [joinL, Lib.join_nil]
  | cons x r =>
    have h := Lib.join_length x.data.toList (r.map (·.data.toList)) s.data.toList
    have e := szs_lens (x :: r)
    rw [List.map_cons] at e
    rw [List.length_map, e, data_length] at h
    simp only [joinL, List.map_cons, List.length_cons]
    rw [h, Nat.add_mul, Nat.mul_comm s.size]
    omega
theorem joinB_size (xs : List ByteArray) (s : ByteArray) : (joinB xs s).size = (joinL xs s).length := by simp [joinB, ByteArray.size]
theorem joinL_succ (x : ByteArray) (r : List ByteArray) (s : ByteArray) (j : Nat) (hj : j < r.length) : joinL (x :: r.take (j + 1)) s = joinL (x :: r.take j) s ++ s.data.toList ++ (r.getD j ByteArray.empty).data.toList := by
  simp only [joinL, List.map_cons, Lib.join_cons, List.map_take]
  rw [Lib.joinTail_take_succ _ _ j ((r.getD j ByteArray.empty).data.toList) (by simp [List.getD_eq_getElem?_getD, hj])]
  simp [List.append_assoc]
theorem szs_take_le (xs : List ByteArray) (i : Nat) : szs (xs.take i) ≤ szs xs := by
  rw [← szs_lens, ← szs_lens, List.map_take]
  exact Lib.lens_take_le _ _
theorem spec_Join_ev (xs : List ByteArray) (s : ByteArray) (hx : xs.length ≤ 1048576) (hb : szs xs + xs.length * s.size < 140737488355328) : Ev (fun k => spec_Join.f k xs s) (joinB xs s) := by
  simp only [spec_Join.f]
  suffices h : ∀ m i, i + m = xs.length → Ev (fun k => spec_Join.l0 k xs s (nu (joinL (xs.take i) s)) (i : Int)) (joinB xs s) from by simpa [joinL, Lib.join_nil, nu] using h xs.length 0 (by omega)
  intro m
  induction m with
  | zero =>
    intro i hi
    refine Ev.up ?_
    simp only [spec_Join.l0]
    refine Ev.neg (by omega) (Ev.const ?_)
    rw [strOfNums_nu, List.take_of_length_le (by omega)]
    rfl
  | succ m ih =>
    intro i hi
    have hlt : i < xs.length := by omega
    have hT : (joinL (xs.take (i + 1)) s).length < 140737488355328 := by
      have h1 := joinL_length (xs.take (i + 1)) s
      have h2 := szs_take_le xs (i + 1)
      have h3 : (xs.take (i + 1)).length * s.size ≤ xs.length * s.size := Nat.mul_le_mul_right _ (by rw [List.length_take]; omega)
      omega
    have ih' := ih (i + 1) (by omega)
    refine Ev.up ?_
    simp only [spec_Join.l0, bytesOf_nu, rdOf_str, Option.bind_some]
    refine Ev.pos (by omega) ?_
    rw [w1' hlt hx]
    cases xs with
    | nil => simp at hlt
    | cons x r =>
      cases i with
      | zero =>
        have e : joinL ((x :: r).take (0 + 1)) s = ((x :: r).getD 0 ByteArray.empty).data.toList := by
          simp [joinL, Lib.join_one]
        rw [e] at hT ih'
        have e0 : joinL ((x :: r).take 0) s = [] := by simp [joinL, Lib.join_nil]
        rw [e0]
        rw [data_length] at hT
        refine Ev.neg (by decide) (Ev.pos (by decide) (Ev.pos ?_ ?_))
        · rw [nu_length]; simpa using hT
        · exact ih'
      | succ j =>
        have hj : j < r.length := by simp at hlt; omega
        have e : joinL ((x :: r).take (j + 1 + 1)) s = joinL ((x :: r).take (j + 1)) s ++ s.data.toList ++ ((x :: r).getD (j + 1) ByteArray.empty).data.toList := by
          have := joinL_succ x r s j hj
          simpa [List.take_succ_cons] using this
        rw [e] at hT ih'
        rw [List.length_append, List.length_append, data_length, data_length] at hT
        refine Ev.pos (by omega) (Ev.pos ?_ (Ev.pos (by omega) (Ev.pos ?_ ?_)))
        · rw [nu_length]; omega
        · rw [List.length_append, nu_length, nu_length, data_length]; omega
        · rw [← nu_append, ← nu_append]; exact ih'
theorem strings_Join_eq (xs : List ByteArray) (s : ByteArray) (hx : xs.length ≤ 1048576) (hb : szs xs + xs.length * s.size < 140737488355328) : strings_Join.f xs s = some (joinB xs s) := by
  have h := joinL_length xs s
  unfold strings_Join.f
  rw [if_pos ⟨by omega, by show (joinL xs s).length ≤ _; omega⟩]
  rfl

end Go.Proofs.YtkapkfobbeehkaaDoor.Px
end
section
namespace Go.Proofs.YtkapkfobbeehkaaDoor.Px
open Go.RowKit Go.Proofs.YtkapkfobbeehkaaDoorW.PrintWords Go.Proofs.YtkapkfobbeehkaaDoorW.PrintLast Go.Proofs.YtkapkfobbeehkaaDoor.Pl Go.Proofs.YtkapkfobbeehkaaDoor.Ext
set_option linter.unusedVariables false
set_option linter.unusedSimpArgs false
/-- Are the names ascending, from an index on? -/
def asc (xs : List ByteArray) : Nat → Nat → Bool
  | _, 0 => true
  | i, m + 1 => Op.bytesLess (xs.getD (i - 1) ByteArray.empty).toList (xs.getD i ByteArray.empty).toList && asc xs (i + 1) m
theorem rdm (xs : List ByteArray) (i : Nat) (h : 1 ≤ i) (hi : i ≤ 1048576) : wrap64 ((i : Int) - 1) = ((i - 1 : Nat) : Int) := by unfold wrap64; omega
theorem spec_AreAscending_ev (xs : List ByteArray) (hx : xs.length ≤ 1048576) : Ev (fun k => spec_AreAscending.f k xs) (asc xs 1 (xs.length - 1)) := by
  suffices h : ∀ m i, 1 ≤ i → (i + m = xs.length ∨ m = 0 ∧ xs.length ≤ i) → i ≤ 1048576 → Ev (fun k => spec_AreAscending.l0 k xs (i : Int)) (asc xs i m) by
    exact h (xs.length - 1) 1 (by omega) (by omega) (by omega)
  intro m
  induction m with
  | zero =>
    intro i h1 hi hl
    refine Ev.up ?_
    simp only [spec_AreAscending.l0]
    exact Ev.neg (by omega) (Ev.now _)
  | succ m ih =>
    intro i h1 hi hl
    refine Ev.up ?_
    simp only [spec_AreAscending.l0]
    rw [rdm xs i h1 hl]
    refine Ev.pos (by omega) (Ev.pos (by omega) (Ev.pos (by omega) (Ev.pos (by omega) ?_)))
    simp only [rdOf_str, asc]
    by_cases hc : Op.bytesLess (xs.getD (i - 1) ByteArray.empty).toList (xs.getD i ByteArray.empty).toList = true
    · refine Ev.pos hc ?_
      rw [w1' (n := xs.length) (by omega) hx, hc, Bool.true_and]
      exact ih (i + 1) (by omega) (by omega) (by omega)
    · refine Ev.neg hc ?_
      rw [Bool.eq_false_iff.2 hc, Bool.false_and]
      exact Ev.now _
theorem impl_AreAscending_ev (xs : List ByteArray) (hx : xs.length ≤ 1048576) : Ev (fun k => impl_AreAscending.f k xs) (asc xs 1 (xs.length - 1)) := by
  suffices h : ∀ m i, 1 ≤ i → (i + m = xs.length ∨ m = 0 ∧ xs.length ≤ i) → i ≤ 1048576 → Ev (fun k => impl_AreAscending.l0 k xs (i : Int)) (asc xs i m) by
    exact h (xs.length - 1) 1 (by omega) (by omega) (by omega)
  intro m
  induction m with
  | zero =>
    intro i h1 hi hl
    refine Ev.up ?_
    simp only [impl_AreAscending.l0]
    exact Ev.neg (by omega) (Ev.now _)
  | succ m ih =>
    intro i h1 hi hl
    refine Ev.up ?_
    simp only [impl_AreAscending.l0]
    rw [rdm xs i h1 hl]
    refine Ev.pos (by omega) (Ev.pos (by omega) (Ev.pos (by omega) (Ev.pos (by omega) ?_)))
    simp only [rdOf_str, asc]
    by_cases hc : Op.bytesLess (xs.getD (i - 1) ByteArray.empty).toList (xs.getD i ByteArray.empty).toList = true
    · refine Ev.pos hc ?_
      rw [w1' (n := xs.length) (by omega) hx, hc, Bool.true_and]
      exact ih (i + 1) (by omega) (by omega) (by omega)
    · refine Ev.neg hc ?_
      rw [Bool.eq_false_iff.2 hc, Bool.false_and]
      exact Ev.now _
end Go.Proofs.YtkapkfobbeehkaaDoor.Px
end
section
namespace Go.Proofs.YtkapkfobbeehkaaDoor.Px
open Go.RowKit Go.Proofs.YtkapkfobbeehkaaDoorW.PrintWords Go.Proofs.YtkapkfobbeehkaaDoorW.PrintLast Go.Proofs.YtkapkfobbeehkaaDoor.Pl Go.Proofs.YtkapkfobbeehkaaDoor.Ext
set_option linter.unusedVariables false
set_option linter.unusedSimpArgs false
/-- Can a list be that of a record's labels? -/
def labB (xs : List ByteArray) : Bool := xs.all isName && (decide (1 ≤ xs.length ∧ xs.length ≤ 4) && asc xs 1 (xs.length - 1))
theorem spec_l1In_eq (a b c : Int) : spec_l1In.f a b c = some (decide (b ≤ a ∧ a ≤ c)) := by
  unfold spec_l1In.f
  by_cases h : a ≥ b
  · rw [if_pos h]
    have h' : b ≤ a := h
    simp [h']
  · rw [if_neg h]
    have h' : ¬ b ≤ a := h
    simp [h']
theorem spec_l3Labels_ev (xs : List ByteArray) (hx : xs.length ≤ 1048576) (hy : ∀ y ∈ xs, y.size ≤ 1048576) : Ev (fun k => spec_l3Labels.f k xs) (labB xs) := by
  simp only [spec_l3Labels.f, labB]
  refine all_ev xs ByteArray.empty isName _ (fun k i => spec_l3Labels.l0 k xs (i : Int)) (fun k i => spec_IsName.f k (rdOf ByteArray.empty xs (i : Int))) (fun k i hi => ?_) ?_ (fun i hi => ?_)
  · simp only [spec_l3Labels.l0]
    rw [if_pos (by omega), if_pos (by omega), w1' hi hx]
  · refine Ev.up ?_
    simp only [spec_l3Labels.l0, spec_l1In_eq, Option.bind_some]
    refine Ev.neg (by omega) ?_
    refine Ev.cases (fun h => ?_) (fun h => ?_)
    · have h2 : (1 ≤ xs.length ∧ xs.length ≤ 4) := by simp at h; omega
      rw [decide_eq_true h2, Bool.true_and]
      exact Ev.bind (spec_AreAscending_ev xs hx) (Ev.now _)
    · have h2 : ¬ (1 ≤ xs.length ∧ xs.length ≤ 4) := by intro h3; apply h; simp; omega
      rw [decide_eq_false h2, Bool.false_and]
      exact Ev.now _
  · rw [rdOf_str]
    exact spec_IsName_ev _ (hy _ (mem_getD xs _ i hi))
theorem IndexFunc_labels (xs : List ByteArray) (hx : xs.length ≤ 1048576) (hy : ∀ y ∈ xs, y.size ≤ 1048576) : ∃ r : Int, Ev (fun k => slices_IndexFunc_string_of_labelsOk_1.l0 k xs (xs.length : Int) 0) r ∧ decide (r ≥ 0) = !(xs.all isName) := by
  suffices h : ∀ m i, i + m = xs.length → ∃ r : Int, Ev (fun k => slices_IndexFunc_string_of_labelsOk_1.l0 k xs (xs.length : Int) (i : Int)) r ∧ decide (r ≥ 0) = !((xs.drop i).all isName) from by simpa using h xs.length 0 (by omega)
  intro m
  induction m with
  | zero =>
    intro i hi
    refine ⟨-1, Ev.up ?_, by rw [List.drop_of_length_le (by omega)]; rfl⟩
    simp only [slices_IndexFunc_string_of_labelsOk_1.l0]
    exact Ev.neg (by omega) (Ev.now _)
  | succ m ih =>
    intro i hi
    have hlt : i < xs.length := by omega
    have e : xs.getD i ByteArray.empty = xs[i] := by simp [List.getD_eq_getElem?_getD, hlt]
    have hn : Ev (fun k => impl_labelsOk_1.f k (rdOf ByteArray.empty xs (i : Int))) (!(isName xs[i])) := by
      simp only [impl_labelsOk_1.f]
      rw [rdOf_str, e]
      exact Ev.bind (impl_IsName_ev _ (by rw [← e]; exact hy _ (mem_getD xs _ i hlt))) (Ev.now _)
    rw [List.drop_eq_getElem_cons hlt, List.all_cons]
    cases hp : isName xs[i]
    · refine ⟨(i : Int), Ev.up ?_, by simp⟩
      simp only [slices_IndexFunc_string_of_labelsOk_1.l0]
      rw [hp] at hn
      exact Ev.pos (by omega) (Ev.pos (by omega) (Ev.pos (by omega) (Ev.bind hn (Ev.pos (by simp) (Ev.now _)))))
    · obtain ⟨r, h1, h2⟩ := ih (i + 1) (by omega)
      refine ⟨r, Ev.up ?_, by rw [h2]; simp⟩
      simp only [slices_IndexFunc_string_of_labelsOk_1.l0, w1' hlt hx]
      rw [hp] at hn
      exact Ev.pos (by omega) (Ev.pos (by omega) (Ev.pos (by omega) (Ev.bind hn (Ev.neg (by simp) h1))))
theorem impl_labelsOk_ev (xs : List ByteArray) (hx : xs.length ≤ 1048576) (hy : ∀ y ∈ xs, y.size ≤ 1048576) : Ev (fun k => impl_labelsOk.f k xs) (labB xs) := by
  simp only [impl_labelsOk.f, labB, slices_ContainsFunc_string_of_labelsOk_1.f, slices_IndexFunc_string_of_labelsOk_1.f]
  by_cases h1 : xs.length < 1
  · refine Ev.pos (by omega) (Ev.const ?_)
    rw [decide_eq_false (by omega)]; simp
  refine Ev.neg (by omega) ?_
  by_cases h2 : xs.length > 4
  · refine Ev.pos (by omega) (Ev.const ?_)
    rw [decide_eq_false (by omega)]; simp
  refine Ev.neg (by omega) ?_
  rw [decide_eq_true (by omega), Bool.true_and]
  refine Ev.bind (impl_AreAscending_ev xs hx) ?_
  refine Ev.cases (fun h => ?_) (fun h => ?_)
  · obtain ⟨r, g1, g2⟩ := IndexFunc_labels xs hx hy
    refine Ev.bind (Ev.bind g1 (Ev.now _)) (Ev.const ?_)
    rw [g2, h]; simp
  · rw [Bool.eq_false_iff.2 h]
    exact Ev.const (by simp)

end Go.Proofs.YtkapkfobbeehkaaDoor.Px
end
section
namespace Go.Proofs.YtkapkfobbeehkaaDoor.Px
open Go.RowKit Go.Proofs.YtkapkfobbeehkaaDoorW.PrintWords Go.Proofs.YtkapkfobbeehkaaDoorW.PrintLast Go.Proofs.YtkapkfobbeehkaaDoor.Pl Go.Proofs.YtkapkfobbeehkaaDoor.Ext
set_option linter.unusedVariables false
set_option linter.unusedSimpArgs false
theorem impl_SizeOfValue_ev : ∀ x : S47, SmValue x → ndValue x ≤ 1048577 → Ev (fun k => impl_SizeOfValue.f k x.f0 x.f1 x.f2 x.f3) (ndValue x : Int) := by
  refine indValueI fun x ih hs hn => ?_
  refine Ev.up ?_
  simp only [impl_SizeOfValue.f]
  rw [ndValue_eq] at hn ⊢
  refine Ev.eq (fold_loop x.f3.length (fun k i => impl_SizeOfValue.f k (rd_T47 x.f3 (i : Int)).f0 (rd_T47 x.f3 (i : Int)).f1 (rd_T47 x.f3 (i : Int)).f2 (rd_T47 x.f3 (i : Int)).f3) (fun k s i => impl_SizeOfValue.l0 k s (x.f3.length : Int) (i : Int) x.f0 x.f1 x.f2 x.f3) (fun s t => wrap64 (s + t)) (fun i => (ndValue (x.f3.getD i z47) : Int)) id
    (fun k s i hi => by simp only [impl_SizeOfValue.l0]; rw [if_pos (by omega), if_pos (by omega), if_pos (by omega), w1' hi hs.p3.1])
    (fun k s => by simp only [impl_SizeOfValue.l0]; rw [if_neg (by omega)]; rfl)
    (fun i hi => ih (x.f3.getD i z47) (mem_getD x.f3 z47 i hi) (hs.p3.2 _ (mem_getD x.f3 z47 i hi)) (by have := sum_le_of_mem ndValue (mem_getD x.f3 z47 i hi); omega)) x.f3.length 0 1 (by omega)) ?_
  rw [foldl_range (fun (s : Int) y => wrap64 (s + (ndValue y : Int))) z47 x.f3 1]
  exact fold_wrap ndValue x.f3 1 (by omega)

end Go.Proofs.YtkapkfobbeehkaaDoor.Px
end
section
namespace Go.Proofs.YtkapkfobbeehkaaDoor.Px
open Go.RowKit Go.Proofs.YtkapkfobbeehkaaDoorW.PrintWords Go.Proofs.YtkapkfobbeehkaaDoorW.PrintLast Go.Proofs.YtkapkfobbeehkaaDoor.Pl Go.Proofs.YtkapkfobbeehkaaDoor.Ext
set_option linter.unusedVariables false
set_option linter.unusedSimpArgs false
/-- One node of a right value. -/
def topV (a n : Int) (l : List ByteArray) (m : Nat) : Bool :=
  if a = 1 then decide ((l.length : Int) = 0) && decide ((m : Int) = 0)
  else if a = 2 then decide ((l.length : Int) = 0) && (decide ((m : Int) = 0) && decide (0 ≤ n ∧ n ≤ 1))
  else if a = 3 then decide (n = 0) && (decide ((l.length : Int) = m) && labB l)
  else if a = 4 then decide (n = 0) && decide ((l.length : Int) = 0)
  else false
mutual
def formV : S47 → Bool
  | ⟨a, n, l, xs⟩ => formVS xs && topV a n l xs.length
def formVS : List S47 → Bool
  | [] => true
  | x :: r => formV x && formVS r
end
theorem formV_eq (x : S47) : formV x = (formVS x.f3 && topV x.f0 x.f1 x.f2 x.f3.length) := by cases x; simp only [formV]
theorem formVS_all (xs : List S47) : formVS xs = xs.all formV := by
  induction xs with
  | nil => rfl
  | cons x r ih => simp [formVS, ih]
theorem spec_l6Form_ev : ∀ x : S47, SmValue x → Ev (fun k => spec_l6Form.f k x.f0 x.f1 x.f2 x.f3) (formV x) := by
  refine indValueI fun x ih hs => ?_
  rw [formV_eq, formVS_all]
  refine Ev.up ?_
  simp only [spec_l6Form.f]
  refine all_ev x.f3 z47 formV _ (fun k i => spec_l6Form.l0 k (i : Int) x.f0 x.f1 x.f2 x.f3) (fun k i => spec_l6Form.f k (rd_T47 x.f3 (i : Int)).f0 (rd_T47 x.f3 (i : Int)).f1 (rd_T47 x.f3 (i : Int)).f2 (rd_T47 x.f3 (i : Int)).f3) (fun k i hi => ?_) ?_ (fun i hi => ih (x.f3.getD i z47) (mem_getD x.f3 z47 i hi) (hs.p3.2 _ (mem_getD x.f3 z47 i hi)))
  · simp only [spec_l6Form.l0]
    rw [if_pos (by omega), if_pos (by omega), w1' hi hs.p3.1]
  · refine Ev.up ?_
    simp only [spec_l6Form.l0, spec_l1In_eq, Option.bind_some]
    refine Ev.neg (by omega) ?_
    unfold topV
    refine Ev.cases (fun h1 => ?_) (fun h1 => ?_)
    · rw [if_pos h1]
      exact Ev.cases (fun g => Ev.const (by rw [decide_eq_true g, Bool.true_and]; rfl)) (fun g => Ev.const (by rw [decide_eq_false g]; rfl))
    rw [if_neg h1]
    refine Ev.cases (fun h2 => ?_) (fun h2 => ?_)
    · rw [if_pos h2]
      refine Ev.cases (fun g => ?_) (fun g => Ev.const (by rw [decide_eq_false g]; rfl))
      rw [decide_eq_true g, Bool.true_and]
      exact Ev.cases (fun g => Ev.const (by rw [decide_eq_true g, Bool.true_and])) (fun g => Ev.const (by rw [decide_eq_false g]; rfl))
    rw [if_neg h2]
    refine Ev.cases (fun h3 => ?_) (fun h3 => ?_)
    · rw [if_pos h3]
      refine Ev.cases (fun g => ?_) (fun g => Ev.const (by rw [decide_eq_false g]; rfl))
      rw [decide_eq_true g, Bool.true_and]
      refine Ev.cases (fun g => ?_) (fun g => Ev.const (by rw [decide_eq_false g]; rfl))
      rw [decide_eq_true g, Bool.true_and]
      exact Ev.bind (spec_l3Labels_ev x.f2 hs.p2.1 hs.p2.2) (Ev.now _)
    rw [if_neg h3]
    refine Ev.cases (fun h4 => ?_) (fun h4 => by rw [if_neg h4]; exact Ev.now _)
    rw [if_pos h4]
    refine Ev.cases (fun g => ?_) (fun g => Ev.const (by rw [decide_eq_false g]; rfl))
    rw [decide_eq_true g, Bool.true_and]
    exact Ev.now _
theorem impl_valueForm_ev : ∀ x : S47, SmValue x → Ev (fun k => impl_valueForm.f k x.f0 x.f1 x.f2 x.f3) (formV x) := by
  refine indValueI fun x ih hs => ?_
  rw [formV_eq, formVS_all]
  have j0 : Ev (fun k => impl_valueForm.j0 k x.f3) (x.f3.all formV) := by
    refine Ev.up ?_
    simp only [impl_valueForm.j0]
    refine Ev.eq (all_ev x.f3 z47 formV true (fun k i => impl_valueForm.l0 k (x.f3.length : Int) (i : Int) x.f3) (fun k i => impl_valueForm.f k (rd_T47 x.f3 (i : Int)).f0 (rd_T47 x.f3 (i : Int)).f1 (rd_T47 x.f3 (i : Int)).f2 (rd_T47 x.f3 (i : Int)).f3) (fun k i hi => ?_) ?_ (fun i hi => ih (x.f3.getD i z47) (mem_getD x.f3 z47 i hi) (hs.p3.2 _ (mem_getD x.f3 z47 i hi)))) (Bool.and_true _)
    · simp only [impl_valueForm.l0]
      rw [if_pos (by omega), if_pos (by omega), if_pos (by omega), w1' hi hs.p3.1]
    · refine Ev.up ?_
      simp only [impl_valueForm.l0]
      exact Ev.neg (by omega) (Ev.now _)
  refine Ev.up ?_
  simp only [impl_valueForm.f]
  unfold topV
  refine Ev.cases (fun h3 => ?_) (fun h3 => ?_)
  · rw [if_neg (show ¬ x.f0 = 1 by omega), if_neg (show ¬ x.f0 = 2 by omega), if_pos h3]
    refine Ev.cases (fun g => ?_) (fun g => Ev.const (by rw [decide_eq_false g]; simp))
    rw [decide_eq_true g, Bool.true_and]
    refine Ev.cases (fun g => ?_) (fun g => Ev.const (by rw [decide_eq_false (by omega)]; simp))
    rw [decide_eq_true (by omega), Bool.true_and]
    refine Ev.bind (impl_labelsOk_ev x.f2 hs.p2.1 hs.p2.2) ?_
    refine Ev.cases (fun g => ?_) (fun g => ?_)
    · rw [g, Bool.and_true]; exact j0
    · rw [Bool.eq_false_iff.2 g, Bool.and_false]; exact Ev.now _
  rw [if_neg h3]
  refine Ev.cases (fun h4 => ?_) (fun h4 => ?_)
  · rw [if_neg (show ¬ x.f0 = 1 by omega), if_neg (show ¬ x.f0 = 2 by omega), if_pos h4]
    refine Ev.cases (fun g => ?_) (fun g => Ev.const (by rw [decide_eq_false g]; simp))
    rw [decide_eq_true g, Bool.true_and]
    refine Ev.cases (fun g => Ev.const (by rw [decide_eq_false (by omega)]; simp)) (fun g => ?_)
    rw [decide_eq_true (by omega), Bool.and_true]
    exact j0
  rw [if_neg h4]
  refine Ev.eq (r := (decide ((x.f2.length : Int) = 0) && (decide ((x.f3.length : Int) = 0) && (decide (x.f0 = 1) || (decide (x.f0 = 2) && decide (0 ≤ x.f1 ∧ x.f1 ≤ 1)))))) ?_ ?_
  · simp only [impl_plainOk.f]
    by_cases e1 : (x.f2.length : Int) = 0
    · rw [if_pos e1, decide_eq_true e1, Bool.true_and]
      by_cases e2 : (x.f3.length : Int) = 0
      · rw [if_pos e2, decide_eq_true e2, Bool.true_and]
        by_cases a1 : x.f0 = 1
        · rw [if_pos a1, decide_eq_true a1]; exact Ev.now _
        rw [if_neg a1, decide_eq_false a1, Bool.false_or]
        by_cases a2 : x.f0 = 2
        · rw [if_pos a2, decide_eq_true a2, Bool.true_and]
          by_cases n0 : x.f1 = 0
          · rw [if_pos n0, decide_eq_true (by omega)]; exact Ev.now _
          · rw [if_neg n0]
            refine Ev.const ?_
            by_cases n1 : x.f1 = 1
            · rw [decide_eq_true (by omega), n1]; rfl
            · rw [decide_eq_false (by omega)]; simpa using n1
        · rw [if_neg a2, decide_eq_false a2]; exact Ev.now _
      · rw [if_neg e2, decide_eq_false e2]; exact Ev.now _
    · rw [if_neg e1, decide_eq_false e1]; exact Ev.now _
  · by_cases e2 : x.f3 = []
    · rw [e2]
      by_cases a1 : x.f0 = 1
      · simp [a1]
      by_cases a2 : x.f0 = 2
      · simp [a2]
      simp [a1, a2]
    · have : ¬ (x.f3.length : Int) = 0 := by
        intro h; exact e2 (List.length_eq_zero_iff.1 (by omega))
      rw [decide_eq_false this]
      by_cases a1 : x.f0 = 1
      · simp [a1]
      by_cases a2 : x.f0 = 2
      · simp [a2]
      simp [a1, a2]
theorem spec_l5Left_ev : ∀ x : S47, SmValue x → ∀ n : Int, 0 ≤ n → n ≤ 1048577 → ∃ r, Ev (fun k => spec_l5Left.f k x.f0 x.f1 x.f2 x.f3 n) r ∧ ((ndValue x : Int) ≤ n → r = n - ndValue x) ∧ (n < ndValue x → r < 0) ∧ r ≤ 1048577 := by
  refine indValueI fun x ih hs n hn hn2 => ?_
  rw [ndValue_eq]
  have loop : ∀ m i s, i + m = x.f3.length → s ≤ 1048577 → ∃ r, Ev (fun k => spec_l5Left.l0 k s (i : Int) x.f0 x.f1 x.f2 x.f3) r ∧ (0 ≤ s → (((((x.f3.drop i).map ndValue).sum : Nat) : Int) ≤ s → r = s - (((x.f3.drop i).map ndValue).sum : Nat)) ∧ (s < (((x.f3.drop i).map ndValue).sum : Nat) → r < 0)) ∧ (s < 0 → r < 0) ∧ r ≤ 1048577 := by
    intro m
    induction m with
    | zero =>
      intro i s hi hs1
      refine ⟨s, Ev.up ?_, fun h => ?_, id, hs1⟩
      · simp only [spec_l5Left.l0]; exact Ev.neg (by omega) (Ev.now _)
      · rw [List.drop_of_length_le (by omega)]; simp <;> omega
    | succ m ihm =>
      intro i s hi hs1
      have hlt : i < x.f3.length := by omega
      have e : x.f3.getD i z47 = x.f3[i] := by simp [List.getD_eq_getElem?_getD, hlt]
      by_cases h0 : 0 ≤ s
      · obtain ⟨r, h1, h2, h3, h4⟩ := ih (x.f3.getD i z47) (mem_getD x.f3 z47 i hlt) (hs.p3.2 _ (mem_getD x.f3 z47 i hlt)) s h0 hs1
        obtain ⟨u, g1, g2, g3, g4⟩ := ihm (i + 1) r (by omega) h4
        refine ⟨u, Ev.up ?_, fun _ => ?_, fun h => by omega, g4⟩
        · simp only [spec_l5Left.l0, w1' hlt hs.p3.1]
          exact Ev.pos (by omega) (Ev.pos h0 (Ev.pos (by omega) (Ev.bind h1 g1)))
        · rw [List.drop_eq_getElem_cons hlt, List.map_cons, List.sum_cons, ← e]
          by_cases hc : (ndValue (x.f3.getD i z47) : Int) ≤ s
          · have := h2 hc
            have := g2 (by omega)
            omega
          · have := h3 (by omega)
            have := g3 (by omega)
            omega
      · refine ⟨s, Ev.up ?_, fun h => absurd h h0, id, hs1⟩
        simp only [spec_l5Left.l0]
        exact Ev.pos (by omega) (Ev.neg (by omega) (Ev.now _))
  obtain ⟨r, h1, h2, h3, h4⟩ := loop x.f3.length 0 (n - 1) (by omega) (by omega)
  refine ⟨r, Ev.up ?_, ?_, ?_, h4⟩
  · simp only [spec_l5Left.f]
    rw [w64 (a := n - 1) (by omega) (by omega)]
    exact h1
  · intro h; have := h2 (by omega); simp at this; omega
  · intro h
    by_cases h0 : 0 ≤ n - 1
    · have := h2 h0; simp at this; omega
    · exact h3 (by omega)
theorem IsValue_told (x : S47) (hs : SmValue x) (hn : ndValue x ≤ 1048577) : ∃ b, Ev (fun k => spec_IsValue.f k x.f0 x.f1 x.f2 x.f3) b ∧ Ev (fun k => impl_IsValue.f k x.f0 x.f1 x.f2 x.f3) b ∧ (b = true → formV x = true) := by
  obtain ⟨r, h1, h2, h3, _⟩ := spec_l5Left_ev x hs 2000 (by decide) (by decide)
  simp only [spec_IsValue.f, impl_IsValue.f]
  have hsz := impl_SizeOfValue_ev x hs hn
  by_cases hc : ndValue x ≤ 2000
  · have := h2 (by omega)
    exact ⟨formV x, Ev.bind h1 (Ev.pos (by omega) (Ev.bind (spec_l6Form_ev x hs) (Ev.now _))), Ev.bind hsz (Ev.pos (by omega) (Ev.bind (impl_valueForm_ev x hs) (Ev.now _))), id⟩
  · have := h3 (by omega)
    exact ⟨false, Ev.bind h1 (Ev.neg (by omega) (Ev.now _)), Ev.bind hsz (Ev.neg (by omega) (Ev.now _)), fun h => by cases h⟩

end Go.Proofs.YtkapkfobbeehkaaDoor.Px
end
section
namespace Go.Proofs.YtkapkfobbeehkaaDoor.Px
open Go.RowKit Go.Proofs.YtkapkfobbeehkaaDoorW.PrintWords Go.Proofs.YtkapkfobbeehkaaDoorW.PrintLast Go.Proofs.YtkapkfobbeehkaaDoor.Pl Go.Proofs.YtkapkfobbeehkaaDoor.Ext
set_option linter.unusedVariables false
set_option linter.unusedSimpArgs false
def labV (a t : ByteArray) : ByteArray := (a ++ (⟨#[61]⟩ : ByteArray)) ++ t
def boolB (n : Int) : ByteArray := if n = 1 then (⟨#[35, 116]⟩ : ByteArray) else (⟨#[35, 102]⟩ : ByteArray)
/-- The text of a node, out of the texts of its parts. -/
def bodyV (a n : Int) (l ts : List ByteArray) : ByteArray :=
  if a = 1 then itB n else if a = 2 then boolB n else if a = 3 then (((⟨#[123]⟩ : ByteArray) ++ joinB (List.zipWith labV l ts) (⟨#[44]⟩ : ByteArray)) ++ (⟨#[125]⟩ : ByteArray)) else (((⟨#[91]⟩ : ByteArray) ++ joinB ts (⟨#[44]⟩ : ByteArray)) ++ (⟨#[93]⟩ : ByteArray))
mutual
def txV : S47 → ByteArray
  | ⟨a, n, l, xs⟩ => bodyV a n l (txVS xs)
def txVS : List S47 → List ByteArray
  | [] => []
  | x :: r => txV x :: txVS r
end
theorem txVS_map (xs : List S47) : txVS xs = xs.map txV := by
  induction xs with
  | nil => rfl
  | cons x r ih => simp [txVS, ih]
theorem txV_eq (x : S47) : txV x = bodyV x.f0 x.f1 x.f2 (x.f3.map txV) := by cases x; simp only [txV, txVS_map]
theorem formV_cases (t : S47) (h : formV t = true) : (∀ y ∈ t.f3, formV y = true) ∧ (t.f0 = 1 ∨ t.f0 = 2 ∨ t.f0 = 3 ∨ t.f0 = 4) ∧ (t.f0 = 1 → t.f3.length = 0) ∧ (t.f0 = 2 → t.f3.length = 0 ∧ (t.f1 = 0 ∨ t.f1 = 1)) ∧ (t.f0 = 3 → t.f3.length = t.f2.length ∧ labB t.f2 = true) := by
  rw [formV_eq, Bool.and_eq_true, formVS_all, List.all_eq_true] at h
  obtain ⟨h1, h2⟩ := h
  unfold topV at h2
  by_cases e1 : t.f0 = 1
  · rw [if_pos e1, Bool.and_eq_true] at h2
    have := of_decide_eq_true h2.2
    exact ⟨h1, by omega, fun _ => by omega, fun h => by omega, fun h => by omega⟩
  rw [if_neg e1] at h2
  by_cases e2 : t.f0 = 2
  · rw [if_pos e2, Bool.and_eq_true, Bool.and_eq_true] at h2
    have := of_decide_eq_true h2.2.1
    have := of_decide_eq_true h2.2.2
    exact ⟨h1, by omega, fun h => by omega, fun _ => ⟨by omega, by omega⟩, fun h => by omega⟩
  rw [if_neg e2] at h2
  by_cases e3 : t.f0 = 3
  · rw [if_pos e3, Bool.and_eq_true, Bool.and_eq_true] at h2
    have := of_decide_eq_true h2.2.1
    exact ⟨h1, by omega, fun h => by omega, fun h => by omega, fun _ => ⟨by omega, h2.2.2⟩⟩
  rw [if_neg e3] at h2
  by_cases e4 : t.f0 = 4
  · exact ⟨h1, by omega, fun h => by omega, fun h => by omega, fun h => by omega⟩
  · rw [if_neg e4] at h2; cases h2
theorem isName_size (s : ByteArray) (h : isName s = true) : s.size ≤ 4 := by
  simp only [isName, Bool.and_eq_true, decide_eq_true_eq] at h
  omega
theorem labB_size (l : List ByteArray) (h : labB l = true) : ∀ y ∈ l, y.size ≤ 4 := by
  simp only [labB, Bool.and_eq_true, List.all_eq_true] at h
  exact fun y hy => isName_size y (h.1 y hy)
theorem szs_cons (x : ByteArray) (r : List ByteArray) : szs (x :: r) = x.size + szs r := by simp [szs]
theorem szs_mapV (xs : List S47) (h : ∀ y ∈ xs, (txV y).size + 6 ≤ 32 * ndValue y) : szs (xs.map txV) + 6 * xs.length ≤ 32 * (xs.map ndValue).sum := by
  induction xs with
  | nil => simp [szs]
  | cons x r ih =>
    have h1 := h x List.mem_cons_self
    have h2 := ih (fun y hy => h y (List.mem_cons_of_mem _ hy))
    simp only [List.map_cons, List.sum_cons, List.length_cons]
    rw [szs_cons]
    omega
theorem szs_zipV : ∀ (l ts : List ByteArray), (∀ y ∈ l, y.size ≤ 4) → szs (List.zipWith labV l ts) ≤ 5 * ts.length + szs ts
  | [], ts, _ => by simp [szs]
  | a :: l, [], _ => by simp [szs]
  | a :: l, t :: ts, h => by
    have h1 := h a List.mem_cons_self
    have h2 := szs_zipV l ts (fun y hy => h y (List.mem_cons_of_mem _ hy))
    rw [List.zipWith_cons_cons, szs_cons, szs_cons, List.length_cons]
    have a1 : (⟨#[61]⟩ : ByteArray).size = 1 := rfl
    have : (labV a t).size = a.size + 1 + t.size := by rw [labV, ByteArray.size_append, ByteArray.size_append, a1]
    omega
theorem boolB_size (n : Int) : (boolB n).size = 2 := by unfold boolB; split <;> rfl
theorem txV_size : ∀ x : S47, SmValue x → formV x = true → (txV x).size + 6 ≤ 32 * ndValue x := by
  refine indValueI fun x ih hs hf => ?_
  obtain ⟨hy, hk, k1, k2, h3⟩ := formV_cases x hf
  have hz0 := szs_mapV x.f3 (fun y hm => ih y hm (hs.p3.2 y hm) (hy y hm))
  rw [txV_eq, ndValue_eq]
  unfold bodyV
  rcases hk with e | e | e | e
  · rw [if_pos e]
    have := itB_size x.f1 (wf64 hs.p1).1 (wf64 hs.p1).2
    omega
  · rw [if_neg (by omega), if_pos e, boolB_size]; omega
  · have hz := szs_zipV x.f2 (x.f3.map txV) (labB_size _ (h3 e).2)
    have hj := joinL_length (List.zipWith labV x.f2 (x.f3.map txV)) (⟨#[44]⟩ : ByteArray)
    have hc : (⟨#[44]⟩ : ByteArray).size = 1 := rfl
    rw [hc] at hj
    have hl : (List.zipWith labV x.f2 (x.f3.map txV)).length ≤ x.f3.length := by simp; omega
    rw [List.length_map] at hz
    rw [if_neg (by omega), if_neg (by omega), if_pos e, ByteArray.size_append, ByteArray.size_append, joinB_size]
    have a1 : (⟨#[123]⟩ : ByteArray).size = 1 := rfl
    have a2 : (⟨#[125]⟩ : ByteArray).size = 1 := rfl
    omega
  · have hj := joinL_length (x.f3.map txV) (⟨#[44]⟩ : ByteArray)
    have hc : (⟨#[44]⟩ : ByteArray).size = 1 := rfl
    rw [hc, List.length_map] at hj
    rw [if_neg (by omega), if_neg (by omega), if_neg (by omega), ByteArray.size_append, ByteArray.size_append, joinB_size]
    have a1 : (⟨#[91]⟩ : ByteArray).size = 1 := rfl
    have a2 : (⟨#[93]⟩ : ByteArray).size = 1 := rfl
    omega
/-- The texts of a node's parts, as_ they are joined. -/
def partsV (x : S47) : List ByteArray := if x.f0 = 3 then List.zipWith labV x.f2 (x.f3.map txV) else x.f3.map txV
theorem partsV_length (x : S47) (hf : formV x = true) : (partsV x).length = x.f3.length := by
  unfold partsV
  split
  · rename_i h
    have := ((formV_cases x hf).2.2.2.2 h).1
    simp
    omega
  · simp
theorem partsV_getD (x : S47) (hf : formV x = true) (i : Nat) (hi : i < x.f3.length) : (partsV x).getD i ByteArray.empty = if x.f0 = 3 then labV (x.f2.getD i ByteArray.empty) (txV (x.f3.getD i z47)) else txV (x.f3.getD i z47) := by
  unfold partsV
  split
  · rename_i h
    have := ((formV_cases x hf).2.2.2.2 h).1
    have hl : i < x.f2.length := by omega
    have e1 : (List.zipWith labV x.f2 (x.f3.map txV))[i]? = some (labV x.f2[i] (txV x.f3[i])) := by
      rw [List.getElem?_eq_getElem (by simp; omega)]
      simp
    rw [List.getD_eq_getElem?_getD, e1]
    simp [List.getD_eq_getElem?_getD, hi, hl]
  · simp [List.getD_eq_getElem?_getD, hi]
theorem take_getD (xs : List ByteArray) (i : Nat) (h : i < xs.length) : xs.take (i + 1) = xs.take i ++ [xs.getD i ByteArray.empty] := by
  rw [List.take_succ_eq_append_getElem h]
  simp [List.getD_eq_getElem?_getD, h]
theorem partsV_small (x : S47) (hs : SmValue x) (hf : formV x = true) (hn : ndValue x ≤ 1048577) : szs (partsV x) + (partsV x).length ≤ 33554464 := by
  obtain ⟨hy, hk, k1, k2, h3⟩ := formV_cases x hf
  have hz0 := szs_mapV x.f3 (fun y hm => txV_size y (hs.p3.2 y hm) (hy y hm))
  rw [partsV_length x hf]
  rw [ndValue_eq] at hn
  unfold partsV
  split
  · rename_i e
    have hz := szs_zipV x.f2 (x.f3.map txV) (labB_size _ (h3 e).2)
    rw [List.length_map] at hz
    omega
  · omega
theorem tf_text (n : Int) (h : n = 0 ∨ n = 1) : (if 0 ≤ n then (if n ≤ (wrap64 (n + 1)) then (if (wrap64 (n + 1)) ≤ 2 then (if 1 + ((⟨#[102, 116]⟩ : ByteArray).extract (n : Int).toNat ((wrap64 (n + 1)) : Int).toNat).size ≤ 9223372036854775807 then (some ((⟨#[35]⟩ : ByteArray) ++ ((⟨#[102, 116]⟩ : ByteArray).extract (n : Int).toNat ((wrap64 (n + 1)) : Int).toNat))) else (none)) else (none)) else (none)) else (none)) = some (boolB n) := by
  rcases h with rfl | rfl <;> kernel_rfl
theorem spec_l6Text_ev : ∀ x : S47, SmValue x → ndValue x ≤ 1048577 → formV x = true → Ev (fun k => spec_l6Text.f k x.f0 x.f1 x.f2 x.f3) (txV x) := by
  refine indValueI fun x ih hs hn hf => ?_
  obtain ⟨hy, hk, k1, k2, h3⟩ := formV_cases x hf
  have hpl := partsV_length x hf
  have hps := partsV_small x hs hf hn
  have hlen := hs.p3.1
  rw [ndValue_eq] at hn
  refine Ev.up ?_
  simp only [spec_l6Text.f]
  suffices h : ∀ m i, i + m = x.f3.length → Ev (fun k => spec_l6Text.l0 k ((partsV x).take i) (i : Int) x.f0 x.f1 x.f2 x.f3) (txV x) from by simpa using h x.f3.length 0 (by omega)
  intro m
  induction m with
  | zero =>
    intro i hi
    refine Ev.up ?_
    simp only [spec_l6Text.l0]
    refine Ev.neg (by omega) ?_
    rw [List.take_of_length_le (by omega), txV_eq]
    unfold bodyV
    have hc : (⟨#[44]⟩ : ByteArray).size = 1 := rfl
    have hj := joinL_length (partsV x) (⟨#[44]⟩ : ByteArray)
    rw [hc, ← joinB_size] at hj
    refine Ev.cases (fun e1 => ?_) (fun e1 => ?_)
    · rw [if_pos e1]
      exact Ev.bind (spec_FormatInt_ev x.f1 (wf64 hs.p1).1 (wf64 hs.p1).2) (Ev.now _)
    rw [if_neg e1]
    refine Ev.cases (fun e2 => ?_) (fun e2 => ?_)
    · rw [if_pos e2, tf_text x.f1 (k2 e2).2]; exact Ev.now _
    rw [if_neg e2]
    refine Ev.cases (fun e3 => ?_) (fun e3 => ?_)
    · rw [if_pos e3]
      refine Ev.bind (spec_Join_ev (partsV x) (⟨#[44]⟩ : ByteArray) (by omega) (by rw [hc]; omega)) ?_
      refine Ev.pos (by omega) (Ev.pos ?_ (Ev.const ?_))
      · first
          | omega
          | (rw [ByteArray.size_append]; have a1 : (⟨#[123]⟩ : ByteArray).size = 1 := rfl; omega)
      · have : partsV x = List.zipWith labV x.f2 (x.f3.map txV) := by unfold partsV; rw [if_pos e3]
        rw [this]
    · rw [if_neg e3]
      have hp : partsV x = x.f3.map txV := by unfold partsV; rw [if_neg e3]
      refine Ev.bind (spec_Join_ev (partsV x) (⟨#[44]⟩ : ByteArray) (by omega) (by rw [hc]; omega)) ?_
      refine Ev.pos (by omega) (Ev.pos ?_ (Ev.const ?_))
      · first
          | omega
          | (rw [ByteArray.size_append]; have a1 : (⟨#[91]⟩ : ByteArray).size = 1 := rfl; omega)
      · rw [hp]
  | succ m ihm =>
    intro i hi
    have hlt : i < x.f3.length := by omega
    have hm := mem_getD x.f3 z47 i hlt
    have hsub := ih _ hm (hs.p3.2 _ hm) (by have := sum_le_of_mem ndValue hm; omega) (hy _ hm)
    have hsz := txV_size _ (hs.p3.2 _ hm) (hy _ hm)
    have hnd := sum_le_of_mem ndValue hm
    have hg := partsV_getD x hf i hlt
    have ht := take_getD (partsV x) i (by omega)
    have ihm' := ihm (i + 1) (by omega)
    rw [ht, hg] at ihm'
    have hti : ((partsV x).take i).length < 8796093022208 := by rw [List.length_take]; omega
    refine Ev.up ?_
    simp only [spec_l6Text.l0, w1' hlt hlen]
    refine Ev.pos (by omega) (Ev.pos (by omega) (Ev.bind hsub ?_))
    refine Ev.cases (fun e3 => ?_) (fun e3 => ?_)
    · rw [if_pos e3] at ihm'
      have hl := (h3 e3).1
      have hls := labB_size _ (h3 e3).2 _ (mem_getD x.f2 ByteArray.empty i (by omega))
      rw [rdOf_str]
      refine Ev.pos (by omega) (Ev.pos (by omega) (Ev.pos ?_ (Ev.pos hti ihm')))
      first
        | omega
        | (rw [ByteArray.size_append]; have a1 : (⟨#[61]⟩ : ByteArray).size = 1 := rfl; omega)
    · rw [if_neg e3] at ihm'
      exact Ev.pos hti ihm'
theorem impl_boolText_eq (n : Int) : impl_boolText.f n = some (boolB n) := by unfold impl_boolText.f boolB; split <;> rfl
theorem impl_valueText_ev : ∀ x : S47, SmValue x → ndValue x ≤ 1048577 → formV x = true → Ev (fun k => impl_valueText.f k x.f0 x.f1 x.f2 x.f3) (txV x) := by
  refine indValueI fun x ih hs hn hf => ?_
  obtain ⟨hy, hk, k1, k2, h3⟩ := formV_cases x hf
  have hpl := partsV_length x hf
  have hps := partsV_small x hs hf hn
  have hlen := hs.p3.1
  rw [ndValue_eq] at hn
  have hc : (⟨#[44]⟩ : ByteArray).size = 1 := rfl
  have hj := joinL_length (partsV x) (⟨#[44]⟩ : ByteArray)
  rw [hc, ← joinB_size] at hj
  refine Ev.up ?_
  simp only [impl_valueText.f]
  refine Ev.cases (fun e1 => ?_) (fun e1 => ?_)
  · rw [impl_FormatInt_eq x.f1 (wf64 hs.p1).1 (wf64 hs.p1).2, txV_eq]
    unfold bodyV
    rw [if_pos e1]
    exact Ev.now _
  refine Ev.cases (fun e2 => ?_) (fun e2 => ?_)
  · rw [impl_boolText_eq, txV_eq]
    unfold bodyV
    rw [if_neg e1, if_pos e2]
    exact Ev.now _
  suffices h : ∀ m i, i + m = x.f3.length → Ev (fun k => impl_valueText.l0 k ((partsV x).take i) (x.f3.length : Int) (i : Int) x.f0 x.f2 x.f3) (txV x) from by simpa using h x.f3.length 0 (by omega)
  intro m
  induction m with
  | zero =>
    intro i hi
    refine Ev.up ?_
    simp only [impl_valueText.l0]
    refine Ev.neg (by omega) ?_
    rw [List.take_of_length_le (by omega), txV_eq]
    unfold bodyV
    rw [if_neg e1, if_neg e2, strings_Join_eq (partsV x) (⟨#[44]⟩ : ByteArray) (by omega) (by rw [hc]; omega)]
    simp only [Option.bind_some]
    refine Ev.cases (fun e3 => ?_) (fun e3 => ?_)
    · rw [if_pos e3]
      refine Ev.pos (by omega) (Ev.pos ?_ (Ev.const ?_))
      · first
          | omega
          | (rw [ByteArray.size_append]; have a1 : (⟨#[123]⟩ : ByteArray).size = 1 := rfl; omega)
      · have : partsV x = List.zipWith labV x.f2 (x.f3.map txV) := by unfold partsV; rw [if_pos e3]
        rw [this]
    · rw [if_neg e3]
      have hp : partsV x = x.f3.map txV := by unfold partsV; rw [if_neg e3]
      refine Ev.pos (by omega) (Ev.pos ?_ (Ev.const ?_))
      · first
          | omega
          | (rw [ByteArray.size_append]; have a1 : (⟨#[91]⟩ : ByteArray).size = 1 := rfl; omega)
      · rw [hp]
  | succ m ihm =>
    intro i hi
    have hlt : i < x.f3.length := by omega
    have hm := mem_getD x.f3 z47 i hlt
    have hsub := ih _ hm (hs.p3.2 _ hm) (by have := sum_le_of_mem ndValue hm; omega) (hy _ hm)
    have hsz := txV_size _ (hs.p3.2 _ hm) (hy _ hm)
    have hnd := sum_le_of_mem ndValue hm
    have hg := partsV_getD x hf i hlt
    have ht := take_getD (partsV x) i (by omega)
    have ihm' := ihm (i + 1) (by omega)
    rw [ht, hg] at ihm'
    have hti : ((partsV x).take i).length < 8796093022208 := by rw [List.length_take]; omega
    refine Ev.up ?_
    simp only [impl_valueText.l0, w1' hlt hlen]
    refine Ev.pos (by omega) (Ev.pos (by omega) (Ev.pos (by omega) (Ev.bind hsub ?_)))
    refine Ev.cases (fun e3 => ?_) (fun e3 => ?_)
    · rw [if_pos e3] at ihm'
      have hl := (h3 e3).1
      have hls := labB_size _ (h3 e3).2 _ (mem_getD x.f2 ByteArray.empty i (by omega))
      rw [rdOf_str]
      refine Ev.pos (by omega) (Ev.pos (by omega) (Ev.pos ?_ (Ev.pos hti ihm')))
      first
        | omega
        | (rw [ByteArray.size_append]; have a1 : (⟨#[61]⟩ : ByteArray).size = 1 := rfl; omega)
    · rw [if_neg e3] at ihm'
      exact Ev.pos hti ihm'
theorem FormatValue_same (x : S47) (hs : SmValue x) (hn : ndValue x ≤ 1048577) : Same (fun k => spec_FormatValue.f k x.f0 x.f1 x.f2 x.f3) (fun k => impl_FormatValue.f k x.f0 x.f1 x.f2 x.f3) := by
  obtain ⟨b, r1, r2, r3⟩ := IsValue_told x hs hn
  simp only [spec_FormatValue.f, impl_FormatValue.f]
  refine Same.bindL r1 (Same.bindR r2 (Same.ite Iff.rfl (fun h => ?_) (fun _ => Same.ret rfl)))
  have hf := r3 h
  exact ⟨txV x, Ev.bind (spec_l6Text_ev x hs hn hf) (Ev.now _), Ev.bind (impl_valueText_ev x hs hn hf) (Ev.now _)⟩

end Go.Proofs.YtkapkfobbeehkaaDoor.Px
end
section
namespace Go.Proofs.YtkapkfobbeehkaaDoor.Pure
open Go.RowKit Go.Proofs.YtkapkfobbeehkaaDoor.Px Go.Proofs.YtkapkfobbeehkaaDoorW.PrintWords Go.Proofs.YtkapkfobbeehkaaDoorW.PrintLast Go.Proofs.YtkapkfobbeehkaaDoor.Pl
set_option linter.unusedVariables false
set_option linter.unusedSimpArgs false
theorem FnExactFormatValue_all (x0 : S42) (hW0 : W42 x0) : Ev (fun k => laws_FnExactFormatValue.f k x0.f0 x0.f1 x0.f2 x0.f3) true := by
  simp only [laws_FnExactFormatValue.f]
  have hb0 : (0 : Int) ≤ (1048576 : Int) ∧ (1048576 : Int) ≤ 1048576 := ⟨by omega, by omega⟩
  refine Ev.bind (szValue_ev x0 hW0 _ hb0.1 hb0.2) ?_
  by_cases hc0 : cut (wtValue x0) (1048576 : Int) < 0
  · exact Ev.pos hc0 (Ev.now _)
  refine Ev.neg hc0 ?_
  have hw0 : (wtValue x0 : Nat) ≤ 1048576 := by
    have := (not_congr (cut_neg (n := wtValue x0))).1 hc0
    have h2 := hb0
    omega
  obtain ⟨r, h1, h2⟩ := FormatValue_same (cvValue x0) (smValue_of x0 hW0 hw0) (by have := ndValue_cv x0; omega)
  refine Ev.bind (toValue_ev x0 hw0) ?_
  first | refine Ev.bind h1 ?_ | (obtain ⟨k1_, h1_⟩ := h1.rounds; refine Ev.fix h1_ ?_)
  refine Ev.bind (toValue_ev x0 hw0) ?_
  first | refine Ev.bind h2 ?_ | (obtain ⟨k2_, h2_⟩ := h2.rounds; refine Ev.fix h2_ ?_)
  first | refine Ev.pos rfl ?_ | refine Ev.neg (by simp) ?_ | refine Ev.pos (by simp) ?_
  refine Ev.bind (toValue_ev x0 hw0) ?_
  refine Ev.bind (eqValue_ev _ (smValue_of x0 hW0 hw0)) ?_
  refine Ev.pos rfl ?_
  exact Ev.now _
theorem FnExactFormatValue : laws_FnExactFormatValue.Pure := by
  intro v0_0 v0_1 v0_2 v0_3 h0
  exact (FnExactFormatValue_all ⟨v0_0, v0_1, v0_2, v0_3⟩ h0).rounds
end Go.Proofs.YtkapkfobbeehkaaDoor.Pure
end
section
namespace Go.Proofs.YtkapkfobbeehkaaDoor.Rd
open Go.RowKit Go.Proofs.YtkapkfobbeehkaaDoorW.PrintWords
set_option linter.unusedVariables false
/-- What reads as_ data of type t, by at most n steps, is of kind d and meets q. -/
def Op (P : Program) (n : Nat) (t : TypeId) {α : Type} (d : Kd α) (q : α → Prop) : Prop :=
  ∀ (H : Type) (enc : TypeId × Value → H) (w : World) (base : Nat) (spare : Nat → Bool) (held : Bool) (fuel : Nat) (cs : List Value) (x : DataW H × List MemPlace),
    fuel ≤ n → DataW.trod enc P w base spare held fuel t cs = some x → ∃ y, d.K w y cs ∧ q y
theorem Op.imp {P : Program} {n : Nat} {t : TypeId} {α : Type} {d d' : Kd α} {q q' : α → Prop} (h1 : ∀ w y cs, d.K w y cs → d'.K w y cs) (h2 : ∀ y, q y → q' y) (h : Op P n t d q) : Op P n t d' q' := by
  intro H enc w base spare held fuel cs x hf hx
  obtain ⟨y, hy, hq⟩ := h H enc w base spare held fuel cs x hf hx
  exact ⟨y, h1 _ _ _ hy, h2 _ hq⟩
theorem Op.iso {P : Program} {n : Nat} {t : TypeId} {α β : Type} {d : Kd α} {q : α → Prop} {f : β → α} (g : α → β) (hg : ∀ y, f (g y) = y) (h : Op P n t d q) : Op P n t (Kd.iso d f) (fun x => q (f x)) := by
  intro H enc w base spare held fuel cs x hf hx
  obtain ⟨y, hy, hq⟩ := h H enc w base spare held fuel cs x hf hx
  refine ⟨g y, ?_, ?_⟩
  · show d.K w (f (g y)) cs
    rw [hg]; exact hy
  · show q (f (g y))
    rw [hg]; exact hq
theorem Op.int {P : Program} {n : Nat} {t : TypeId} {k : IntKind} (ht : P.underlying t = some (.int k)) : Op P n t (Kd.int k) (fun x => (Lit.int k x).wf = true) := by
  intro H enc w base spare held fuel cs x hf hx
  obtain ⟨m, rfl, rfl, hw⟩ := DataW.trod_int ht hx
  exact ⟨m, rfl, hw⟩
theorem Op.bool {P : Program} {n : Nat} {t : TypeId} (ht : P.underlying t = some .bool) : Op P n t Kd.bool (fun _ => True) := by
  intro H enc w base spare held fuel cs x hf hx
  obtain ⟨m, rfl, rfl⟩ := DataW.trod_bool ht hx
  exact ⟨m, rfl, trivial⟩
theorem trod_string' {H : Type} {enc : TypeId × Value → H} {P : Program} {w : World} {base : Nat} {spare : Nat → Bool} {held : Bool} {fuel : Nat} {t : TypeId} {cs : List Value} {x : DataW H × List MemPlace}
    (ht : P.underlying t = some .string) (h : DataW.trod enc P w base spare held fuel t cs = some x) : ∃ s, cs = [.string s] ∧ s.size ≤ maxLen := by
  cases fuel with
  | zero => simp [DataW.trod] at h
  | succ n =>
    unfold DataW.trod at h
    rw [ht] at h
    split at h <;> simp_all
theorem Op.string {P : Program} {n : Nat} {t : TypeId} (ht : P.underlying t = some .string) : Op P n t Kd.string (fun s => s.size ≤ maxLen) := by
  intro H enc w base spare held fuel cs x hf hx
  obtain ⟨m, rfl, hm⟩ := trod_string' ht hx
  exact ⟨m, rfl, hm⟩
theorem add_add (a : Addr) (i j : Nat) : (a.add i).add j = a.add (i + j) := by
  unfold Addr.add
  by_cases h1 : i = 0 <;> by_cases h2 : j = 0 <;> simp [h1, h2, Nat.add_assoc]
theorem choose_list {α : Type} {p : Nat → α → Prop} (n : Nat) (h : ∀ i, i < n → ∃ y, p i y) : ∃ ys : List α, ys.length = n ∧ ∀ i y, ys[i]? = some y → p i y := by
  induction n with
  | zero => exact ⟨[], rfl, fun i y hy => by simp at hy⟩
  | succ n ih =>
    obtain ⟨ys, hl, hy⟩ := ih (fun i hi => h i (by omega))
    obtain ⟨z, hz⟩ := h n (by omega)
    refine ⟨ys ++ [z], by simp [hl], fun i y hi => ?_⟩
    by_cases hlt : i < n
    · rw [List.getElem?_append_left (by omega)] at hi
      exact hy i y hi
    · by_cases he : i = n
      · subst he
        rw [List.getElem?_append_right (by omega)] at hi
        simp [hl] at hi
        subst hi
        exact hz
      · rw [List.getElem?_eq_none (by simp; omega)] at hi
        cases hi
theorem Op.slice {P : Program} {n : Nat} {t e : TypeId} {α : Type} {d : Kd α} {q : α → Prop} (ht : P.underlying t = some (.slice e)) (hsz : P.cellsOf e = d.sz) (h : ∀ k, k < n → Op P k e d q) :
    Op P n t (Kd.slice e d) (fun xs => xs.length ≤ maxLen ∧ ∀ y ∈ xs, q y) := by
  intro H enc w base spare held fuel cs x hf hx
  rcases DataW.trod_slice ht hx with ⟨rfl, _⟩ | ⟨a, len, cap, elems, rest, m, hm, rfl, _, hb, hl, hc, hlen, hel, _, _⟩
  · exact ⟨[], ⟨none, 0, rfl, Nat.le_refl _, ⟨rfl, by simp, fun hp => absurd hp (by simp)⟩⟩, by simp, fun y hy => by simp at hy⟩
  · have hone : ∀ i, i < len → ∃ y, (∃ c, c.length = d.sz ∧ d.K w y c ∧ ∀ j u, c[j]? = some u → w.cell? (a.add (i * d.sz + j)) = some u) ∧ q y := by
      intro i hi
      have h1 := hel i hi
      rw [List.getElem?_eq_getElem (by omega)] at h1
      obtain ⟨c, hc1, hc2⟩ := Option.bind_eq_some_iff.1 h1
      obtain ⟨y, hy, hq⟩ := h m (by omega) H enc w base spare held m c _ (Nat.le_refl _) hc2
      obtain ⟨_, hcl, hcells⟩ := World.cells?_some hc1
      refine ⟨y, ⟨c, by omega, hy, fun j u hu => ?_⟩, hq⟩
      have hj : j < P.cellsOf e := by
        rw [← hcl]
        exact (List.getElem?_eq_some_iff.1 hu).1
      have := hcells j hj
      rw [add_add, hsz] at this
      rw [this, hu]
    obtain ⟨ys, hyl, hys⟩ := choose_list len hone
    have hmx : len ≤ 9223372036854775807 := by
      have : cap ≤ 9223372036854775807 := hc
      omega
    refine ⟨ys, ⟨some a, cap, by rw [hyl], by omega, ⟨rfl, by omega, fun _ => ⟨a, rfl, fun j p hj => (hys j p hj).1⟩⟩⟩, by rw [hyl]; exact hmx, fun y hy => ?_⟩
    obtain ⟨i, hi, rfl⟩ := List.getElem_of_mem hy
    exact (hys i _ (List.getElem?_eq_getElem hi)).2
/-- Fields, from an offset on. -/
def OpF (P : Program) (n : Nat) (fs : List Field) (off : Nat) {α : Type} (d : Kd α) (q : α → Prop) : Prop :=
  ∀ (H : Type) (enc : TypeId × Value → H) (w : World) (base : Nat) (spare : Nat → Bool) (held : Bool) (fuel : Nat) (cs : List Value), fuel ≤ n →
    (∀ f ∈ fs, ∃ x, DataW.trod enc P w base spare held fuel f.type ((cs.drop f.offset).take (P.cellsOf f.type)) = some x) → cs.length = off + d.sz → ∃ y, d.K w y (cs.drop off) ∧ q y
theorem OpF.one {P : Program} {n : Nat} {f : Field} {off : Nat} {α : Type} {d : Kd α} {q : α → Prop} (ho : f.offset = off) (hsz : P.cellsOf f.type = d.sz) (h : Op P n f.type d q) : OpF P n [f] off d q := by
  intro H enc w base spare held fuel cs hf hx hl
  obtain ⟨x, hx⟩ := hx f (List.mem_singleton.2 rfl)
  rw [ho, hsz, List.take_of_length_le (by rw [List.length_drop]; omega)] at hx
  exact h H enc w base spare held fuel _ x hf hx
theorem OpF.cons {P : Program} {n : Nat} {f : Field} {fs : List Field} {off : Nat} {α β : Type} {a : Kd α} {b : Kd β} {qa : α → Prop} {qb : β → Prop} (ho : f.offset = off) (hsz : P.cellsOf f.type = a.sz) (h : Op P n f.type a qa) (hr : OpF P n fs (off + a.sz) b qb) :
    OpF P n (f :: fs) off (Kd.pair a b) (fun y => qa y.1 ∧ qb y.2) := by
  intro H enc w base spare held fuel cs hf hx hl
  have hl' : cs.length = off + (a.sz + b.sz) := hl
  obtain ⟨x, h1⟩ := hx f (List.mem_cons_self ..)
  rw [ho, hsz] at h1
  obtain ⟨y, hy, hq⟩ := h H enc w base spare held fuel _ x hf h1
  obtain ⟨z, hz, hq2⟩ := hr H enc w base spare held fuel cs hf (fun g hg => hx g (List.mem_cons_of_mem _ hg)) (by omega)
  refine ⟨(y, z), ⟨_, _, ?_, hy, hz⟩, hq, hq2⟩
  rw [← List.drop_drop, List.take_append_drop]
theorem Op.struct {P : Program} {n : Nat} {t : TypeId} {fs : Array Field} {α : Type} {d : Kd α} {q : α → Prop} (ht : P.underlying t = some (.struct fs)) (hsz : P.cellsOf t = d.sz) (h : ∀ k, k < n → OpF P k fs.toList 0 d q) : Op P n t d q := by
  intro H enc w base spare held fuel cs x hf hx
  obtain ⟨xs, m, hm, _, hl, hxl, hfs⟩ := DataW.trod_struct ht hx
  have hr := h m (by omega) H enc w base spare held m cs (Nat.le_refl _) (fun f hfm => ?_) (by omega)
  · simpa using hr
  · obtain ⟨i, hi, rfl⟩ := List.getElem_of_mem hfm
    have hi' : i < fs.size := by simpa using hi
    have h2 := hfs i _ (Array.getElem?_eq_getElem hi')
    rw [List.getElem?_eq_getElem (by omega)] at h2
    exact ⟨_, by simpa using h2⟩
/-- The same at whatever fuel. -/
theorem Op.open_ {P : Program} {t : TypeId} {α : Type} {d : Kd α} {q : α → Prop} (h : ∀ n, Op P n t d q) {H : Type} {enc : TypeId × Value → H} {w : World} {base : Nat} {spare : Nat → Bool} {held : Bool} {v : Value} {x : DataW H} {ps : List MemPlace}
    (ht : DataW.Trod enc P w base spare held t v x ps) : ∃ y, d.K w y v.cells.toList ∧ q y := by
  obtain ⟨fuel, hf⟩ := ht
  exact h fuel H enc w base spare held fuel _ _ (Nat.le_refl _) hf
end Go.Proofs.YtkapkfobbeehkaaDoor.Rd
end
section
namespace Go.Proofs.YtkapkfobbeehkaaDoor.Px
open Go.RowKit Go.Proofs.YtkapkfobbeehkaaDoor.Ext Go.Proofs.YtkapkfobbeehkaaDoorW.PrintWords Go.Proofs.YtkapkfobbeehkaaDoorW.PrintLast Go.Proofs.YtkapkfobbeehkaaDoorW.PrintMore Go.Proofs.YtkapkfobbeehkaaDoor
set_option linter.unusedVariables false
set_option linter.unusedSimpArgs false

theorem fold42 : ∀ (w : World) (x : S42) (cs : List Value), (F42 k42).K w x cs → k42.K w x cs := by
  intro w x cs h
  obtain ⟨_, _, rfl, rfl, ⟨_, _, rfl, rfl, ⟨_, _, rfl, ⟨A2, c2, rfl, l2, g2⟩, ⟨A3, c3, rfl, l3, g3⟩⟩⟩⟩ := h
  exact k42_mk w x l2 g2 l3 g3
theorem op42 : ∀ n, Rd.Op Tryd.prog n 42 k42 W42 := by
  intro n
  induction n using Nat.strongRecOn with
  | _ n ih =>
  exact Rd.Op.imp (d := F42 k42) fold42 (fun x h => W42.mk h.1 h.2.1 h.2.2.1 h.2.2.2.1 h.2.2.2.2) (Rd.Op.iso (g := fun p => ⟨p.1, p.2.1, p.2.2.1, p.2.2.2⟩) (fun _ => rfl) (Rd.Op.struct Tryd.underlying42 (by kernel_rfl) (fun j0 hj0 => (Rd.OpF.cons rfl (by kernel_rfl) (Rd.Op.int Tryd.underlying3) (Rd.OpF.cons rfl (by kernel_rfl) (Rd.Op.int Tryd.underlying3) (Rd.OpF.cons rfl (by kernel_rfl) (Rd.Op.slice Tryd.underlying27 (by kernel_rfl) (fun j1 hj1 => (Rd.Op.string Tryd.underlying9))) (Rd.OpF.one rfl (by kernel_rfl) (Rd.Op.slice Tryd.underlying40 (by kernel_rfl) (fun j1 hj1 => ih j1 (by omega))))))))))
end Go.Proofs.YtkapkfobbeehkaaDoor.Px
end
section
namespace Go.Proofs.YtkapkfobbeehkaaDoor.fnExactFormatValue
open Go.ChangeShapes Go.WideShapes Go.ChangeAt Go.RowKit Go.Proofs.YtkapkfobbeehkaaDoor.Px Go.Proofs.YtkapkfobbeehkaaDoorW.PrintWords
open Go.ChangeMaps (open_string shut_string)
set_option linter.unusedVariables false
theorem own : ownKnob Tryd.prog.godebug = none := by kernel_rfl
theorem laidOut : laidOutB Tryd.prog = true := by kernel_rfl
open Go.Proofs.YtkapkfobbeehkaaDoor.Ext (Laid gPow)
/-- A heap whose block i holds these cells. -/
noncomputable def layAt (h : Array Obj) (i : Nat) (cs : Array Value) : Array Obj := h.modify i fun
  | .cells _ t frozen => .cells cs t frozen
  | o => o
/-- The world of the witness: the listed variables hold what they are laid with. -/
noncomputable def laidWorld (os : Os) : World :=
  { World.holding Tryd.prog os ⟨#[], #[], []⟩ with heap := (layAt (layAt (layAt (World.holding Tryd.prog os ⟨#[], #[], []⟩).heap 6
      ((([0, 1, 28, 2, 29, 14, 24, 3, 30, 22, 20, 15, 25, 17, 4, 8, 31, 27, 13, 23, 21, 19, 16, 7, 26, 12, 18, 6, 11, 5, 10, 9] : List Int).map fun z => Value.int .u8 z)).toArray) 7
      ((([0, 1, 56, 2, 57, 49, 28, 3, 61, 58, 42, 50, 38, 29, 17, 4, 62, 47, 59, 36, 45, 43, 51, 22, 53, 39, 33, 30, 24, 18, 12, 5, 63, 55, 48, 27, 60, 41, 37, 16, 46, 35, 44, 21, 52, 32, 23, 11, 54, 26, 40, 15, 34, 20, 31, 10, 25, 14, 19, 9, 13, 8, 7, 6] : List Int).map fun z => Value.int .u8 z)).toArray) 0
      ((([1, 10, 100, 1000, 10000, 100000, 1000000, 10000000, 100000000, 1000000000, 10000000000, 100000000000, 1000000000000, 10000000000000, 100000000000000, 1000000000000000, 10000000000000000, 100000000000000000, 1000000000000000000, 10000000000000000000] : List Int).map fun z => Value.int .u64 z)).toArray) }
theorem laidWorld_met (os : Os) (args : Array Value) : laidMetH Tryd.prog Rows.fnExactFormatValueRow.laid ((laidWorld os).forCall (fun _ _ => 0) ⟨#[], args, []⟩).memory :=
  laidMetH_of_parts (laidMet_of_run' 8 (by kernel_rfl) (by kernel_rfl)) (by kernel_rfl)
theorem laid_one : ((Rows.fnExactFormatValueRow.laid.filter fun x => x.2.handleName?.isNone).filter fun x => x.1 == "internal/strconv.uint64pow10") = [("internal/strconv.uint64pow10", Lib.tabData .u64 Lib.pow10Tab)] := by kernel_rfl
theorem laid_of {W : World} (h : laidMetH Tryd.prog Rows.fnExactFormatValueRow.laid W) : Laid W := by
  have h1 := ((laidMetH_iff.1 h).1).filter (fun x => x.1 == "internal/strconv.uint64pow10")
  rw [laid_one] at h1
  exact Lib.tabIs_of_head (t := 157) (e := 132) (n := 20) gPow (by kernel_rfl) (by kernel_rfl) (by kernel_rfl) (by kernel_rfl) (by kernel_rfl) h1
set_option maxRecDepth 100000 in
theorem lifted (os : Os) (started : os.Started) (H : Type) (enc : TypeId × Value → H) :
    ReturnsInHanded {} Tryd.checked os 9 .any (fun w args => (Rows.fnExactFormatValueSpec.pre enc Tryd.prog Tryd.f9 [] false w args ∧ laidMetH Tryd.prog Rows.fnExactFormatValueRow.laid w) ∧ sizedMet enc Tryd.prog Tryd.f9 (OpenSpec.ofChange Rows.fnExactFormatValueSpec) false w args) (Rows.fnExactFormatValueSpec.post enc Tryd.prog Tryd.f9 false true false false) := by
  refine returnsInHanded_of_change_and (C := Tryd.checked) (X := fun w _ => laidMetH Tryd.prog Rows.fnExactFormatValueRow.laid w) (fun _ _ _ hh h => h.of_heap hh) own started (by kernel_rfl) Tryd.func9
    (ChangeSpec.witness_at (enc := enc) (C := Tryd.checked) (os := os) (X := fun w _ => laidMetH Tryd.prog Rows.fnExactFormatValueRow.laid w) false (laidWorld os) #[.agg #[.int .i64 0, .int .i64 0, .slice none 0 0, .slice none 0 0]] 8 rfl (by kernel_rfl) (by kernel_rfl) (by kernel_rfl) (by kernel_rfl) (by kernel_rfl) (laidWorld_met os _)) ?_
  intro W base args ds gs before hval0 hW hcnd hsz0 hL0 _
  have hL : Laid W := laid_of hL0
  have hsz : (DataW.weightsEach Tryd.prog (Tryd.f9.params.toList ++ Rows.fnExactFormatValueSpec.plain.varTypes Tryd.prog) (ds ++ gs)).all (· ≤ reachBytes) = true := hsz0
  have hval : ∀ (j : Nat) t v, Tryd.f9.params[j]? = some t → args[j]? = some v → Value.okWide Tryd.prog W .any base t v := hval0
  have hW' := hW
  obtain ⟨p, q, hA0, hV, rfl, hfz, hnd⟩ := hW
  have hA : DataW.TrodAll enc Tryd.prog W 0 (fun _ => true) true Tryd.f9.params.toList args.toList ds p := hA0
  rw [Tryd.params9] at hA hval hsz
  obtain ⟨v0, vs0, d0, ds0, p0, q0, hargs, rfl, rfl, h0, r0⟩ := trodAll_cons hA
  obtain ⟨rfl, rfl, rfl⟩ := trodAll_nil r0
  obtain rfl : args = #[v0] := by cases args; simp_all
  obtain ⟨rfl, rfl⟩ := trodVars_none hV
  have k0 := h0
  have lt0 : ∀ x ∈ p0, x.block < W.heap.size := by obtain ⟨m, hm⟩ := k0; exact DataW.trod_lt m _ _ _ hm
  obtain ⟨cs0, rfl, _⟩ := okWide_struct Tryd.underlying42 (hval 0 42 v0 rfl rfl)
  obtain ⟨x0, K0, Q0⟩ := Rd.Op.open_ op42 h0
  obtain ⟨A0_2, c0_2, A0_3, c0_3, e0, l0_2, g0_2, l0_3, g0_3⟩ := k42_open K0
  obtain rfl : cs0 = #[.int .i64 x0.f0, .int .i64 x0.f1, .slice A0_2 x0.f2.length c0_2, .slice A0_3 x0.f3.length c0_3] := by cases cs0; simpa [Value.cells] using e0
  clear hA0 hval0 hsz0 hsz
  obtain ⟨k, hk⟩ := Pure.FnExactFormatValue x0.f0 x0.f1 x0.f2 x0.f3 (by obtain ⟨_, _, _, _⟩ := x0; exact Q0)
  refine (Px.laws_FnExactFormatValue.calls k x0.f0 x0.f1 _ _ x0.f2 _ _ x0.f3 true W g0_2 l0_2 g0_3 l0_3 hL hk).mono fun e W' he => ?_
  obtain ⟨he, bel⟩ : e = .returned (.bool true) ∧ Below W.heap.size W W' := ⟨he.1, he.2⟩
  subst he
  exact ⟨_, rfl, _, _, _, [], _, [], hW', trodAll_mk1 (shut_bool Tryd.underlying4 _), (trodAll_cons_mk (Below.trod laidOut (by kernel_rfl) (of_decide_eq_true (by kernel_rfl)) k0 bel lt0) trodAll_mk0), rfl, bel.frame _, fun h => by cases h⟩
theorem over : Rows.fnExactFormatValueRow.holds Tryd.pinned (OpenSpec.ofChange Rows.fnExactFormatValueSpec) :=
  OpenClaim.holds_of_wide 9 Tryd.f9 rfl rfl rfl rfl rfl rfl rfl ⟨rfl, rfl, rfl, rfl, rfl⟩ rfl rfl rfl rfl rfl (by kernel_rfl) Tryd.func9 (by kernel_rfl)
    (of_decide_eq_true (by kernel_rfl)) (by unfold Func.isWrapper; first | (rw [if_pos (by decide +kernel)]; kernel_rfl) | (rw [if_neg (by decide +kernel)]; exact ⟨rfl, rfl⟩))
    (fun os started H enc _ => lifted os started H enc)
theorem proved : Rows.FnExactFormatValueSaid := over
#print axioms proved
end Go.Proofs.YtkapkfobbeehkaaDoor.fnExactFormatValue
namespace Go.Proofs.YtkapkfobbeehkaaDoor
/-- The row, under a short name, for the claim. -/
theorem fnExactFormatValue_holds : Rows.FnExactFormatValueSaid := fnExactFormatValue.proved
end Go.Proofs.YtkapkfobbeehkaaDoor
end
