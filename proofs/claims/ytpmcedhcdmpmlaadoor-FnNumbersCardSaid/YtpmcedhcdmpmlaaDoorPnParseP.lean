/- What a text of a number says: the library's reading of a number's own text, and texts that differ. No condition beyond the sizes named. -/
import Derived.Test.YtpmcedhcdmpmlaaDoorPnFmtInt
import Derived.Test.YtpmcedhcdmpmlaaDoorPl
import Derived.Test.YtpmcedhcdmpmlaaDoorExt
import Derived.Lib.AtoiAllCases
namespace Go.Proofs.YtpmcedhcdmpmlaaDoor.Pn
open Go.RowKit Go.Proofs.YtpmcedhcdmpmlaaDoorW.PrintWords Go.Proofs.YtpmcedhcdmpmlaaDoorW.PrintLast Go.Proofs.YtpmcedhcdmpmlaaDoor.Pl Go.Proofs.YtpmcedhcdmpmlaaDoor.Ext
set_option linter.unusedVariables false
set_option linter.unusedSimpArgs false
theorem parse_snoc (c : UInt8) (hc : 48 ≤ c.toNat ∧ c.toNat ≤ 57) : ∀ (l : List UInt8) (acc a : Nat), Lib.parseUint10 acc l = .ok a → a < 1000000000000000 → Lib.parseUint10 acc (l ++ [c]) = .ok (a * 10 + (c.toNat - 48))
  | [], acc, a, h, ha => by
    simp only [Lib.parseUint10] at h
    injection h with h
    subst h
    simp only [List.nil_append, Lib.parseUint10]
    rw [if_pos hc, if_neg (by omega), if_neg (by omega)]
  | d :: r, acc, a, h, ha => by
    simp only [Lib.parseUint10] at h
    simp only [List.cons_append, Lib.parseUint10]
    by_cases h1 : 48 ≤ d.toNat ∧ d.toNat ≤ 57
    · rw [if_pos h1] at h ⊢
      by_cases h2 : 1844674407370955162 ≤ acc
      · rw [if_pos h2] at h; cases h
      rw [if_neg h2] at h ⊢
      by_cases h3 : 18446744073709551616 ≤ acc * 10 + (d.toNat - 48)
      · rw [if_pos h3] at h; cases h
      rw [if_neg h3] at h ⊢
      exact parse_snoc c hc r _ a h ha
    · rw [if_neg h1] at h; cases h
theorem digN (d : Nat) (h : d < 10) : (UInt8.ofNat (48 + d)).toNat = 48 + d := by rw [UInt8.toNat_ofNat']; omega
theorem parse_dec : ∀ u : Nat, u < 1000000000000000 → Lib.parseUint10 0 (Lib.decDigits u) = .ok u := by
  intro u
  induction u using Nat.strongRecOn with
  | _ u ih =>
    intro hu
    by_cases h : u < 10
    · rw [Lib.decDigits, dif_pos h]
      have := parse_snoc (UInt8.ofNat (48 + u)) (by rw [digN u h]; omega) [] 0 0 rfl (by decide)
      rw [digN u h] at this
      simpa using this
    · rw [Lib.decDigits, dif_neg h]
      have := parse_snoc (UInt8.ofNat (48 + u % 10)) (by rw [digN _ (by omega)]; omega) _ 0 (u / 10) (ih (u / 10) (by omega) (by omega)) (by omega)
      rw [this, digN _ (by omega)]
      congr 1
      omega
def dig (c : UInt8) : Bool := decide (48 ≤ c.toNat ∧ c.toNat ≤ 57)
theorem dec_dig : ∀ u : Nat, (Lib.decDigits u).all dig = true := by
  intro u
  induction u using Nat.strongRecOn with
  | _ u ih =>
    by_cases h : u < 10
    · rw [Lib.decDigits, dif_pos h]
      simp only [List.all_cons, List.all_nil, dig, Bool.and_true, decide_eq_true_eq]
      rw [digN u h]; omega
    · rw [Lib.decDigits, dif_neg h, List.all_append, ih (u / 10) (by omega)]
      simp only [List.all_cons, List.all_nil, dig, Bool.and_true, Bool.true_and, decide_eq_true_eq]
      rw [digN _ (by omega)]; omega
theorem dec_ne (u : Nat) : Lib.decDigits u ≠ [] := by
  rw [Lib.decDigits]
  split <;> simp
theorem parseMag_dec (u : Nat) (h : u < 1000000000000000) : Lib.parseMag (Lib.decDigits u) = .ok u := by
  unfold Lib.parseMag
  rw [if_neg (dec_ne u), parse_dec u h]
theorem atoi_itoa (v : Int) (h0 : -1000000000000 < v) (h1 : v < 1000000000000) : Lib.atoiAll (Lib.itoa v) = .ok v := by
  by_cases hv : v < 0
  · have hi : Lib.itoa v = 45 :: Lib.decDigits v.natAbs := by unfold Lib.itoa; rw [if_pos hv]
    rw [hi, Lib.atoiAll_minus, parseMag_dec _ (by omega)]
    simp only [Lib.signed]
    rw [if_neg (by omega)]
    congr 1
    omega
  · have hi : Lib.itoa v = Lib.decDigits v.toNat := by unfold Lib.itoa; rw [if_neg hv]
    rw [hi]
    have hd := dec_dig v.toNat
    have hm := parseMag_dec v.toNat (by omega)
    cases hl : Lib.decDigits v.toNat with
    | nil => exact absurd hl (dec_ne _)
    | cons c r =>
      rw [hl] at hd hm
      simp only [List.all_cons, Bool.and_eq_true, dig, decide_eq_true_eq] at hd
      rw [Lib.atoiAll_plain c r (by omega) (by omega), hm]
      simp only [Lib.signless]
      rw [if_neg (by omega)]
      congr 1
      omega
/-- What a reading of a number within bounds answers. -/
def Told (s : ByteArray) (low high : Int) (r : Int × Bool) : Prop := (∃ v, low ≤ v ∧ v ≤ high ∧ s = itB v ∧ r = (v, true)) ∨ ((∀ v, low ≤ v → v ≤ high → s ≠ itB v) ∧ r = (0, false))
theorem itB_atoi (v : Int) (h0 : -1000000000000 < v) (h1 : v < 1000000000000) : Lib.atoiAll (itB v).data.toList = .ok v := atoi_itoa v h0 h1
theorem Told_one {s : ByteArray} {low high : Int} {r r' : Int × Bool} (h0 : -1000000000000 < low) (h1 : high < 1000000000000) (h : Told s low high r) (h' : Told s low high r') : r = r' := by
  rcases h with ⟨v, a, b, c, d⟩ | ⟨a, d⟩ <;> rcases h' with ⟨v', a', b', c', d'⟩ | ⟨a', d'⟩
  · have e1 := itB_atoi v (by omega) (by omega)
    have e2 := itB_atoi v' (by omega) (by omega)
    rw [← c] at e1
    rw [← c', e1] at e2
    injection e2 with e2
    subst e2
    rw [d, d']
  · exact absurd c (a' v a b)
  · exact absurd c' (a v' a' b')
  · rw [d, d']

end Go.Proofs.YtpmcedhcdmpmlaaDoor.Pn
