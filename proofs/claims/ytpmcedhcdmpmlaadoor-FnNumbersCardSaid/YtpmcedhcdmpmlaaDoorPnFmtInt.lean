/- Numbers as text: the reference's loop and the library's contract come to the same. No condition beyond the int's bounds. -/
import Derived.Test.YtpmcedhcdmpmlaaDoorPn2
import Derived.Test.YtpmcedhcdmpmlaaDoorPn4
import Derived.Test.YtpmcedhcdmpmlaaDoorPl
import Derived.Test.YtpmcedhcdmpmlaaDoorExt
import Derived.Lib.ItoaLen
namespace Go.Proofs.YtpmcedhcdmpmlaaDoor.Pn
open Go.RowKit Go.Proofs.YtpmcedhcdmpmlaaDoorW.PrintWords Go.Proofs.YtpmcedhcdmpmlaaDoorW.PrintLast Go.Proofs.YtpmcedhcdmpmlaaDoor.Pl Go.Proofs.YtpmcedhcdmpmlaaDoor.Ext
set_option linter.unusedVariables false
set_option linter.unusedSimpArgs false
theorem tmod10 (u : Nat) : Int.tmod (u : Int) 10 = ((u % 10 : Nat) : Int) := rfl
theorem tdiv10 (u : Nat) : Int.tdiv (u : Int) 10 = ((u / 10 : Nat) : Int) := rfl
theorem tmod10n (u : Nat) : Int.tmod (-(u : Int)) 10 = -((u % 10 : Nat) : Int) := by rw [Int.neg_tmod, tmod10]
theorem tdiv10n (u : Nat) : Int.tdiv (-(u : Int)) 10 = -((u / 10 : Nat) : Int) := by rw [Int.neg_tdiv, tdiv10]
theorem baExt {a b : ByteArray} (h : a.data.toList = b.data.toList) : a = b := by
  cases a with | mk a => cases b with | mk b =>
  congr 1
  exact Array.toList_inj.1 h
theorem baApp (a b : ByteArray) : (a ++ b).data.toList = a.data.toList ++ b.data.toList := by simp
theorem digitB (d : Nat) (h : d < 10) : strOfNums [(wrap64 (48 + (d : Int))) % 256] = ⟨#[UInt8.ofNat (48 + d)]⟩ := by
  rw [w64 (by omega) (by omega)]
  have : ((48 + (d : Int)) % 256).toNat = 48 + d := by omega
  simp [strOfNums, this]
theorem dd10 (u : Nat) (h : u ≠ 0) : (if u / 10 = 0 then [] else Lib.decDigits (u / 10)) ++ [UInt8.ofNat (48 + u % 10)] = Lib.decDigits u := by
  by_cases h10 : u < 10
  · rw [if_pos (by omega), Lib.decDigits, dif_pos h10, Nat.mod_eq_of_lt h10]; rfl
  · rw [if_neg (by omega)]
    conv => rhs; rw [Lib.decDigits, dif_neg h10]
/-- What the reference's loop has when it stands at a number. -/
def outI (u : Nat) (neg : Bool) (out : ByteArray) : ByteArray := ⟨((if neg = true then [45] else []) ++ (if u = 0 then [] else Lib.decDigits u) ++ out.data.toList).toArray⟩
theorem outI_step (u : Nat) (neg : Bool) (out : ByteArray) (h : u ≠ 0) : outI (u / 10) neg ((⟨#[UInt8.ofNat (48 + u % 10)]⟩ : ByteArray) ++ out) = outI u neg out := by
  apply baExt
  simp only [outI]
  rw [if_neg h, ← dd10 u h, baApp]
  simp [List.append_assoc]
theorem intLoop_zero (neg : Bool) (out : ByteArray) (h : out.size ≤ 1000) : Ev (fun k => spec_FormatInt.l0 k 0 neg out) (outI 0 neg out) := by
  refine Ev.up ?_
  simp only [spec_FormatInt.l0]
  refine Ev.pos trivial (Ev.cases (fun hn => ?_) (fun hn => ?_))
  · refine Ev.pos (by omega) (Ev.const ?_)
    apply baExt
    rw [baApp]
    simp [outI, hn]
  · refine Ev.const ?_
    apply baExt
    simp [outI, hn]
theorem intLoop_ev : ∀ (n u : Nat) (x : Int) (neg : Bool) (out : ByteArray), (x = (u : Int) ∨ x = -(u : Int)) → u < 10 ^ n → u ≤ 9223372036854775808 → (x = (u : Int) → u ≤ 9223372036854775807) → out.size + n ≤ 1000 → Ev (fun k => spec_FormatInt.l0 k x neg out) (outI u neg out) := by
  intro n
  induction n with
  | zero =>
    intro u x neg out hx hu _ _ ho
    have h0 : u = 0 := by omega
    subst h0
    have : x = 0 := by omega
    subst this
    exact intLoop_zero neg out (by omega)
  | succ n ih =>
    intro u x neg out hx hu hb hb2 ho
    by_cases h0 : u = 0
    · subst h0
      have : x = 0 := by omega
      subst this
      exact intLoop_zero neg out (by omega)
    have h10 : u / 10 < 10 ^ n := by rw [Nat.pow_succ] at hu; omega
    have hs : ((⟨#[UInt8.ofNat (48 + u % 10)]⟩ : ByteArray) ++ out).size = 1 + out.size := by rw [ByteArray.size_append]; rfl
    have hs1 : (⟨#[UInt8.ofNat (48 + u % 10)]⟩ : ByteArray).size = 1 := rfl
    refine Ev.up ?_
    simp only [spec_FormatInt.l0]
    refine Ev.neg (by omega) ?_
    by_cases hx0 : x < 0
    · have ex : x = -(u : Int) := by omega
      subst ex
      have ih' := ih (u / 10) (-((u / 10 : Nat) : Int)) neg ((⟨#[UInt8.ofNat (48 + u % 10)]⟩ : ByteArray) ++ out) (Or.inr rfl) h10 (by omega) (by omega) (by rw [hs]; omega)
      rw [outI_step u neg out h0] at ih'
      rw [tmod10n, tdiv10n, Int.neg_neg]
      have wd : wrap64 (-((u / 10 : Nat) : Int)) = -((u / 10 : Nat) : Int) := w64 (by omega) (by omega)
      have wm : wrap64 ((u % 10 : Nat) : Int) = ((u % 10 : Nat) : Int) := w64 (by omega) (by omega)
      rw [wd, wm]
      refine Ev.cases (fun hc => ?_) (fun hc => ?_)
      · simp only [Option.bind_some]
        rw [digitB _ (Nat.mod_lt _ (by decide))]
        exact Ev.pos (by rw [hs1]; omega) ih'
      · have e0 : u % 10 = 0 := by omega
        have e1 : (-((u % 10 : Nat) : Int)) = ((u % 10 : Nat) : Int) := by omega
        rw [e1]
        simp only [Option.bind_some]
        rw [digitB _ (Nat.mod_lt _ (by decide))]
        exact Ev.pos (by rw [hs1]; omega) ih'
    · have ex : x = (u : Int) := by omega
      subst ex
      have ih' := ih (u / 10) ((u / 10 : Nat) : Int) neg ((⟨#[UInt8.ofNat (48 + u % 10)]⟩ : ByteArray) ++ out) (Or.inl rfl) h10 (by omega) (by omega) (by rw [hs]; omega)
      rw [outI_step u neg out h0] at ih'
      have hb3 := hb2 rfl
      rw [tmod10, tdiv10]
      have wd : wrap64 ((u / 10 : Nat) : Int) = ((u / 10 : Nat) : Int) := w64 (by omega) (by omega)
      rw [wd]
      refine Ev.neg (by omega) ?_
      simp only [Option.bind_some]
      rw [digitB _ (Nat.mod_lt _ (by decide))]
      exact Ev.pos (by rw [hs1]; omega) ih'
/-- A number's text. -/
def itB (x : Int) : ByteArray := ⟨(Lib.itoa x).toArray⟩
theorem spec_FormatInt_ev (x : Int) (h0 : -9223372036854775808 ≤ x) (h1 : x ≤ 9223372036854775807) : Ev (fun k => spec_FormatInt.f k x) (itB x) := by
  simp only [spec_FormatInt.f]
  refine Ev.cases (fun hx => Ev.const ?_) (fun hx => ?_)
  · subst hx
    simp [itB, Lib.itoa, Lib.decDigits]
  · have h := intLoop_ev 20 x.natAbs x (decide (x < 0)) (⟨#[]⟩ : ByteArray) (by omega) (by omega) (by omega) (by omega) (by decide)
    have e : outI x.natAbs (decide (x < 0)) (⟨#[]⟩ : ByteArray) = itB x := by
      apply baExt
      simp only [outI, itB, Lib.itoa]
      rw [if_neg (show ¬ x.natAbs = 0 by omega)]
      by_cases hn : x < 0
      · simp [hn]
      · have : x.natAbs = x.toNat := by omega
        simp [hn, this]
    rw [e] at h
    exact h
theorem impl_FormatInt_eq (x : Int) (h0 : -9223372036854775808 ≤ x) (h1 : x ≤ 9223372036854775807) : impl_FormatInt.f x = some (itB x) := by
  simp only [impl_FormatInt.f, strconv_Itoa_14.f]
  rw [if_pos ⟨h0, h1⟩]
  rfl
theorem itB_size (x : Int) (h0 : -9223372036854775808 ≤ x) (h1 : x ≤ 9223372036854775807) : (itB x).size ≤ 21 := by
  have := Lib.itoa_length_le x h0 h1
  simpa [itB, ByteArray.size] using this
theorem FormatInt_same (x : Int) (h : (Lit.int .i64 x).wf = true) : ∃ r, Ev (fun k => spec_FormatInt.f k x) r ∧ Ev (fun k => impl_FormatInt.f x) r :=
  ⟨itB x, spec_FormatInt_ev x (wf64 h).1 (wf64 h).2, by rw [impl_FormatInt_eq x (wf64 h).1 (wf64 h).2]; exact Ev.now _⟩

end Go.Proofs.YtpmcedhcdmpmlaaDoor.Pn
