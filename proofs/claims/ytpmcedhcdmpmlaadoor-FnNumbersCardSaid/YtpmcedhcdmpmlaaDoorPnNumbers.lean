/- Numbers that are drawn, written and read again. No condition beyond the sizes named. -/
import Derived.Test.YtpmcedhcdmpmlaaDoorPn1
import Derived.Test.YtpmcedhcdmpmlaaDoorPn4
import Derived.Test.YtpmcedhcdmpmlaaDoorPn6
import Derived.Test.YtpmcedhcdmpmlaaDoorPnDraw
import Derived.Test.YtpmcedhcdmpmlaaDoorPnFmtInt
import Derived.Test.YtpmcedhcdmpmlaaDoorPnParseI
import Derived.Test.YtpmcedhcdmpmlaaDoorPnParseP
import Derived.Test.YtpmcedhcdmpmlaaDoorPl
import Derived.Test.YtpmcedhcdmpmlaaDoorExt
namespace Go.Proofs.YtpmcedhcdmpmlaaDoor.Pn
open Go.RowKit Go.Proofs.YtpmcedhcdmpmlaaDoorW.PrintWords Go.Proofs.YtpmcedhcdmpmlaaDoorW.PrintLast Go.Proofs.YtpmcedhcdmpmlaaDoor.Pl Go.Proofs.YtpmcedhcdmpmlaaDoor.Ext
set_option linter.unusedVariables false
set_option linter.unusedSimpArgs false
theorem l1Whole_ev (l : List Int) (hl : l.length ≤ 1048576) (i h : Int) (h0 : 0 ≤ i) (h1 : i ≤ l.length) : ∃ x i' h', spec_l1Whole.f l i h = some (x, i', h') ∧ -9223372036854775808 ≤ x ∧ x ≤ 9223372036854775807 := by
  obtain ⟨x, i1, h2, e, a, b, c, d⟩ := l1Below_ev l hl i h 3 h0 h1 (by decide) (by decide)
  unfold spec_l1Whole.f
  rw [e]
  simp only [Option.bind_some]
  by_cases hx : x = 0
  · rw [if_pos hx]
    obtain ⟨s, i2, h3, e2, m, _, _⟩ := l1PickInt_ev' l hl i1 h2 [0, 1, (-1), 9, 10, 999999, 1000000, 999999999999, 1000000000000, (-999999999999), 9223372036854775807, (-9223372036854775808)] c d (by decide) (by decide)
    rw [e2]
    simp only [Option.bind_some]
    refine ⟨_, _, _, rfl, ?_⟩
    simp only [List.mem_cons, List.mem_nil_iff, or_false] at m
    omega
  rw [if_neg hx]
  by_cases hx1 : x = 1
  · rw [if_pos hx1]
    obtain ⟨y, i2, h3, e2, a2, b2, _, _⟩ := l1Below_ev2 l hl i1 h2 1000000 c d (by decide)
    rw [e2]
    simp only [Option.bind_some]
    rw [w64 (a := y - 500000) (by omega) (by omega)]
    exact ⟨_, _, _, rfl, by omega, by omega⟩
  · rw [if_neg hx1]
    obtain ⟨y, i2, h3, e2, a2, b2, _, _⟩ := l1Below_ev l hl i1 h2 20 c d (by decide) (by decide)
    rw [e2]
    simp only [Option.bind_some]
    exact ⟨_, _, _, rfl, by omega, by omega⟩
theorem DrawInt_ev (l : List Int) (hl : l.length ≤ 1048576) : ∃ n, Ev (fun k => spec_DrawFormatInt.f k l) n ∧ -9223372036854775808 ≤ n ∧ n ≤ 9223372036854775807 := by
  obtain ⟨h, h1⟩ := l1New_ev l hl
  obtain ⟨x, i', h', e, a, b⟩ := l1Whole_ev l hl 0 h (Int.le_refl _) (by omega)
  refine ⟨x, ?_, a, b⟩
  simp only [spec_DrawFormatInt.f]
  refine Ev.bind h1 ?_
  simp only [e, Option.bind_some]
  exact Ev.now _
theorem DrawParse_ev (l : List Int) (hl : l.length ≤ 1048576) : ∃ t : ByteArray, Ev (fun k => spec_DrawParseNumber.f k l) t ∧ t.size ≤ 1048576 := by
  obtain ⟨h, h1⟩ := l1New_ev l hl
  obtain ⟨x, i1, h2, e, a, b, c, d⟩ := l1Below_ev l hl 0 h 2 (Int.le_refl _) (by omega) (by decide) (by decide)
  by_cases hx : (x == 0) = true
  · obtain ⟨y, i2, h3, e2, a2, b2⟩ := l1Whole_ev l hl i1 h2 c d
    refine ⟨itB y, ?_, by have := itB_size y a2 b2; omega⟩
    simp only [spec_DrawParseNumber.f]
    refine Ev.bind h1 ?_
    simp only [spec_l1Once.f, e, Option.bind_some]
    refine Ev.pos hx ?_
    simp only [e2, Option.bind_some]
    exact Ev.bind (spec_FormatInt_ev y a2 b2) (Ev.now _)
  · obtain ⟨s, i2, h3, e2, m, _, _⟩ := l1Pick_ev l hl i1 h2 [(⟨#[]⟩ : ByteArray), (⟨#[48, 48]⟩ : ByteArray), (⟨#[48, 49]⟩ : ByteArray), (⟨#[45, 49]⟩ : ByteArray), (⟨#[43, 49]⟩ : ByteArray), (⟨#[120]⟩ : ByteArray), (⟨#[57, 57, 57, 57, 57, 57]⟩ : ByteArray), (⟨#[49, 48, 48, 48, 48, 48, 48]⟩ : ByteArray), (⟨#[45, 48]⟩ : ByteArray), (⟨#[45]⟩ : ByteArray), (⟨#[32, 49]⟩ : ByteArray), (⟨#[49, 32]⟩ : ByteArray)] c d (by decide) (by decide)
    refine ⟨s, ?_, ?_⟩
    · simp only [spec_DrawParseNumber.f]
      refine Ev.bind h1 ?_
      simp only [spec_l1Once.f, e, Option.bind_some]
      refine Ev.neg hx ?_
      simp only [e2, Option.bind_some]
      exact Ev.now _
    · simp only [List.mem_cons, List.mem_nil_iff, or_false] at m
      rcases m with rfl | rfl | rfl | rfl | rfl | rfl | rfl | rfl | rfl | rfl | rfl | rfl <;> decide
theorem itB_neg_size (n : Int) (h : n < 0) : (itB n).size = 1 + (Lib.decDigits n.natAbs).length := by
  have e : Lib.itoa n = 45 :: Lib.decDigits n.natAbs := by unfold Lib.itoa; rw [if_pos h]
  simp [itB, ByteArray.size, e]
  omega
theorem itB_pos_size (n : Int) (h : ¬ n < 0) : (itB n).size = (Lib.decDigits n.natAbs).length := by
  have e : Lib.itoa n = Lib.decDigits n.toNat := by unfold Lib.itoa; rw [if_neg h]
  have e2 : n.natAbs = n.toNat := by omega
  simp [itB, ByteArray.size, e, e2]
theorem itB_head (n : Int) : (itB n).data.toList.head? = some 45 ↔ n < 0 := by
  have hi : (itB n).data.toList = Lib.itoa n := rfl
  rw [hi]
  by_cases h : n < 0
  · have e : Lib.itoa n = 45 :: Lib.decDigits n.natAbs := by unfold Lib.itoa; rw [if_pos h]
    rw [e]
    exact ⟨fun _ => h, fun _ => rfl⟩
  · have e : Lib.itoa n = Lib.decDigits n.toNat := by unfold Lib.itoa; rw [if_neg h]
    rw [e]
    refine ⟨fun hc => ?_, fun hc => absurd hc h⟩
    have hd := dec_dig n.toNat
    cases hl : Lib.decDigits n.toNat with
    | nil => rw [hl] at hc; cases hc
    | cons c r =>
      rw [hl] at hc hd
      simp only [List.head?_cons, Option.some.injEq] at hc
      subst hc
      simp [dig] at hd
theorem dec_len_iff (u : Nat) : (Lib.decDigits u).length ≤ 12 ↔ u < 1000000000000 := by
  refine ⟨fun h => ?_, fun h => dec_len 11 u h⟩
  have h1 := valF_lt (Lib.decDigits u) 0 (dec_dig u)
  rw [valF_dec] at h1
  have h2 : 10 ^ (Lib.decDigits u).length ≤ 10 ^ 12 := Nat.pow_le_pow_right (by decide) h
  omega
/-- What the reading of a number's own text answers. -/
theorem read_own (n : Int) (r : Int × Bool) (h : Told (itB n) (-999999999999) 999999999999 r) : r = if n.natAbs < 1000000000000 then (n, true) else (0, false) := by
  rcases h with ⟨v, a, b, c, rfl⟩ | ⟨a, rfl⟩
  · have hn : n.natAbs < 1000000000000 := by
      have hv := (dec_len_iff v.natAbs).2 (by omega)
      have hh : n < 0 ↔ v < 0 := by rw [← itB_head n, ← itB_head v, c]
      have hs : (itB n).size = (itB v).size := by rw [c]
      refine (dec_len_iff n.natAbs).1 ?_
      by_cases hneg : n < 0
      · rw [itB_neg_size n hneg, itB_neg_size v (hh.1 hneg)] at hs; omega
      · rw [itB_pos_size n hneg, itB_pos_size v (fun e => hneg (hh.2 e))] at hs; omega
    rw [if_pos hn]
    have e1 := itB_atoi n (by omega) (by omega)
    have e2 := itB_atoi v (by omega) (by omega)
    rw [c, e2] at e1
    injection e1 with e1
    rw [e1]
  · rw [if_neg]
    intro hn
    exact a n (by omega) (by omega) rfl
theorem rest_ev (l : List Int) (hl : l.length ≤ 1048576) : Ev (fun k => laws_FnNumbers.j0 k l false) true := by
  obtain ⟨t, h1, h2⟩ := DrawParse_ev l hl
  obtain ⟨r, r1, r2⟩ := impl_told t h2 0 999999 (by decide) (by decide)
  obtain ⟨q, q1, q2⟩ := ParseNumber_same t h2
  have e : impl_ParseNumber.f t = some r := by simp only [impl_ParseNumber.f, r1, Option.bind_some]
  rw [e] at q2
  obtain rfl := Option.some.inj q2
  refine Ev.up ?_
  simp only [laws_FnNumbers.j0]
  refine Ev.neg (by simp) (Ev.bind h1 ?_)
  simp only [e, Option.bind_some]
  refine Ev.bind q1 (Ev.pos (by simp) ?_)
  rcases r2 with ⟨v, a, b, c, d⟩ | ⟨a, d⟩
  · subst d
    refine Ev.pos rfl ?_
    simp only [impl_FormatInt_eq v (by omega) (by omega), Option.bind_some]
    exact Ev.pos (by rw [c]) (Ev.const (decide_eq_true a))
  · subst d
    exact Ev.neg (by simp) (Ev.now _)
theorem FnNumbers_told (l : List Int) : ∃ k, laws_FnNumbers.f k l = some true := by
  suffices h : Ev (fun k => laws_FnNumbers.f k l) true from h.rounds
  simp only [laws_FnNumbers.f, laws_big.f, Option.bind_some]
  by_cases hb : (l.length : Int) > 1048576
  · exact Ev.pos (decide_eq_true hb) (Ev.now _)
  refine Ev.neg (by simpa using hb) ?_
  have hl : l.length ≤ 1048576 := by omega
  obtain ⟨n, h1, n0, n1⟩ := DrawInt_ev l hl
  have hrest := rest_ev l hl
  have hsz := itB_size n n0 n1
  obtain ⟨r, r1, r2⟩ := impl_told (itB n) (by omega) (-999999999999) 999999999999 (by decide) (by decide)
  have hr := read_own n r r2
  have e : impl_ParseInt.f (itB n) = some r := by simp only [impl_ParseInt.f, r1, Option.bind_some]
  refine Ev.bind h1 ?_
  simp only [impl_FormatInt_eq n n0 n1, e, Option.bind_some]
  refine Ev.bind (spec_FormatInt_ev n n0 n1) (Ev.pos rfl ?_)
  by_cases hn : n.natAbs < 1000000000000
  · rw [if_pos hn] at hr
    subst hr
    have hd := (dec_len_iff n.natAbs).2 hn
    by_cases h12 : ((itB n).size : Int) ≤ 12
    · exact Ev.pos h12 (Ev.neg (by simp) (Ev.pos rfl (by simpa using hrest)))
    · refine Ev.neg h12 ?_
      by_cases hneg : n < 0
      · have := itB_neg_size n hneg
        refine Ev.pos hneg ?_
        rw [decide_eq_true (by omega : ((itB n).size : Int) ≤ 13)]
        exact Ev.neg (by simp) (Ev.pos rfl (by simpa using hrest))
      · have := itB_pos_size n hneg
        omega
  · rw [if_neg hn] at hr
    subst hr
    have hd : ¬ (Lib.decDigits n.natAbs).length ≤ 12 := fun h => hn ((dec_len_iff _).1 h)
    by_cases hneg : n < 0
    · have := itB_neg_size n hneg
      refine Ev.neg (by omega) (Ev.pos hneg ?_)
      rw [decide_eq_false (by omega : ¬ ((itB n).size : Int) ≤ 13)]
      exact Ev.neg (by simp) (Ev.neg (by simp) hrest)
    · have := itB_pos_size n hneg
      exact Ev.neg (by omega) (Ev.neg hneg (Ev.neg (by simp) (Ev.neg (by simp) hrest)))

end Go.Proofs.YtpmcedhcdmpmlaaDoor.Pn
