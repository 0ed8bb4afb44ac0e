/- What the reference draws: each step comes to its end, within its bounds. No condition beyond the sizes named. -/
import Derived.Test.YtpmcedhcdmpmlaaDoorPn1
import Derived.Test.YtpmcedhcdmpmlaaDoorPn4
import Derived.Test.YtpmcedhcdmpmlaaDoorPl
import Derived.Test.YtpmcedhcdmpmlaaDoorExt
import Derived.Laws.Bits128
namespace Go.Proofs.YtpmcedhcdmpmlaaDoor.Pn
open Go.RowKit Go.Proofs.YtpmcedhcdmpmlaaDoorW.PrintWords Go.Proofs.YtpmcedhcdmpmlaaDoorW.PrintLast Go.Proofs.YtpmcedhcdmpmlaaDoor.Pl Go.Proofs.YtpmcedhcdmpmlaaDoor.Ext
set_option linter.unusedVariables false
set_option linter.unusedSimpArgs false
theorem i64_and255 (n : Int) : Go.bits .and .i64 n 255 = n % 256 := by
  have h255 : (BitVec.ofInt 64 255).toNat = 2 ^ 8 - 1 := by decide
  have key : (BitVec.ofInt 64 n &&& BitVec.ofInt 64 255).toNat = (n % ((2 ^ 64 : Nat) : Int)).toNat % 2 ^ 8 := by
    rw [BitVec.toNat_and, BitVec.toNat_ofInt, h255, Nat.and_two_pow_sub_one_eq_mod]
  show IntKind.i64.wrap ((BitVec.ofInt 64 n &&& BitVec.ofInt 64 255).toNat : Nat) = n % 256
  rw [key, IntKind.wrap_i64]
  omega
theorem and255 (x : Int) : 0 ≤ Go.bits .and .i64 x 255 ∧ Go.bits .and .i64 x 255 ≤ 255 := by
  rw [i64_and255]
  omega
theorem l1Byte_ev (l : List Int) (hl : l.length ≤ 1048576) (i h : Int) (h0 : 0 ≤ i) (h1 : i ≤ l.length) : ∃ x i' h', spec_l1Byte.f l i h = some (x, i', h') ∧ 0 ≤ x ∧ x ≤ 255 ∧ 0 ≤ i' ∧ i' ≤ l.length := by
  unfold spec_l1Byte.f
  by_cases hc : i < (l.length : Int)
  · rw [if_pos hc, if_pos h0]
    have e : wrap64 (i + 1) = i + 1 := w64 (by omega) (by omega)
    exact ⟨_, _, _, rfl, (and255 _).1, (and255 _).2, by omega, by omega⟩
  · rw [if_neg hc]
    exact ⟨_, _, _, rfl, (and255 _).1, (and255 _).2, h0, h1⟩
theorem l1Below_ev (l : List Int) (hl : l.length ≤ 1048576) (i h n : Int) (h0 : 0 ≤ i) (h1 : i ≤ l.length) (hn : 0 < n) (hn2 : n ≤ 256) : ∃ x i' h', spec_l1Below.f l i h n = some (x, i', h') ∧ 0 ≤ x ∧ x < n ∧ 0 ≤ i' ∧ i' ≤ l.length := by
  obtain ⟨x, i', h', e, a, b, c, d⟩ := l1Byte_ev l hl i h h0 h1
  unfold spec_l1Below.f
  rw [if_neg (by omega), if_pos hn2, e]
  simp only [Option.bind_some]
  rw [if_neg (by omega)]
  exact ⟨_, _, _, rfl, Int.tmod_nonneg _ a, Int.tmod_lt_of_pos _ hn, c, d⟩
theorem l1Pick_ev (l : List Int) (hl : l.length ≤ 1048576) (i h : Int) (xs : List ByteArray) (h0 : 0 ≤ i) (h1 : i ≤ l.length) (hn : 0 < xs.length) (hn2 : xs.length ≤ 256) : ∃ s i' h', spec_l1Pick.f l i h xs = some (s, i', h') ∧ s ∈ xs ∧ 0 ≤ i' ∧ i' ≤ l.length := by
  obtain ⟨x, i', h', e, a, b, c, d⟩ := l1Below_ev l hl i h (xs.length : Int) h0 h1 (by omega) (by omega)
  unfold spec_l1Pick.f
  rw [e]
  simp only [Option.bind_some]
  rw [if_pos a, if_pos b]
  obtain ⟨k, rfl⟩ : ∃ k : Nat, x = k := ⟨x.toNat, by omega⟩
  exact ⟨_, _, _, rfl, by rw [rdOf_str]; exact mem_getD xs _ k (by omega), c, d⟩
theorem l1PickInt_ev' (l : List Int) (hl : l.length ≤ 1048576) (i h : Int) (xs : List Int) (h0 : 0 ≤ i) (h1 : i ≤ l.length) (hn : 0 < xs.length) (hn2 : xs.length ≤ 256) : ∃ s i' h', spec_l1PickInt.f l i h xs = some (s, i', h') ∧ s ∈ xs ∧ 0 ≤ i' ∧ i' ≤ l.length := by
  obtain ⟨x, i', h', e, a, b, c, d⟩ := l1Below_ev l hl i h (xs.length : Int) h0 h1 (by omega) (by omega)
  unfold spec_l1PickInt.f
  rw [e]
  simp only [Option.bind_some]
  rw [if_pos a, if_pos b]
  obtain ⟨k, rfl⟩ : ∃ k : Nat, x = k := ⟨x.toNat, by omega⟩
  refine ⟨_, _, _, rfl, ?_, c, d⟩
  have hk : k < xs.length := by omega
  simp [rd, hk]
theorem l1Below_ev2 (l : List Int) (hl : l.length ≤ 1048576) (i h n : Int) (h0 : 0 ≤ i) (h1 : i ≤ l.length) (hn : 256 < n) : ∃ x i' h', spec_l1Below.f l i h n = some (x, i', h') ∧ 0 ≤ x ∧ x < n ∧ 0 ≤ i' ∧ i' ≤ l.length := by
  obtain ⟨x, i1, h2, e, a, b, c, d⟩ := l1Byte_ev l hl i h h0 h1
  obtain ⟨y, i2, h3, e2, a2, b2, c2, d2⟩ := l1Byte_ev l hl i1 h2 c d
  obtain ⟨z, i3, h4, e3, a3, b3, c3, d3⟩ := l1Byte_ev l hl i2 h3 c2 d2
  obtain ⟨w, i4, h5, e4, a4, b4, c4, d4⟩ := l1Byte_ev l hl i3 h4 c3 d3
  unfold spec_l1Below.f
  rw [if_neg (by omega), if_neg (by omega), e]
  simp only [Option.bind_some, e2, e3, e4]
  rw [if_neg (by omega)]
  have hw : wrap64 ((wrap64 ((wrap64 ((wrap64 (x * 16777216)) + (wrap64 (y * 65536)))) + (wrap64 (z * 256)))) + w) = x * 16777216 + y * 65536 + z * 256 + w := by
    rw [w64 (a := x * 16777216) (by omega) (by omega), w64 (a := y * 65536) (by omega) (by omega), w64 (a := z * 256) (by omega) (by omega), w64 (a := x * 16777216 + y * 65536) (by omega) (by omega), w64 (a := x * 16777216 + y * 65536 + z * 256) (by omega) (by omega), w64 (by omega) (by omega)]
  rw [hw]
  exact ⟨_, _, _, rfl, Int.tmod_nonneg _ (by omega), Int.tmod_lt_of_pos _ (by omega), c4, d4⟩
theorem l1New_ev (l : List Int) (hl : l.length ≤ 1048576) : ∃ h, Ev (fun k => spec_l1New.f k l) (l, 0, h) := by
  simp only [spec_l1New.f]
  suffices hh : ∀ m i (x : Int), i + m = l.length → ∃ h, Ev (fun k => spec_l1New.l0 k l x (i : Int)) (l, 0, h) from hh l.length 0 _ (by omega)
  intro m
  induction m with
  | zero =>
    intro i x hi
    refine ⟨x, Ev.up ?_⟩
    simp only [spec_l1New.l0]
    exact Ev.neg (by omega) (Ev.now _)
  | succ m ih =>
    intro i x hi
    by_cases hc : (i : Int) < 4000
    · obtain ⟨h, hh⟩ := ih (i + 1) (Go.bits .and .i64 (wrap64 ((wrap64 ((wrap64 (x * 131)) + (wrap64 (rd l (i : Int))))) + 7)) 1073741823) (by omega)
      refine ⟨h, Ev.up ?_⟩
      simp only [spec_l1New.l0, w1 (n := l.length) (i := i) (by omega) (by unfold maxLen; omega)]
      exact Ev.pos (by omega) (Ev.pos hc (Ev.pos (by omega) hh))
    · refine ⟨x, Ev.up ?_⟩
      simp only [spec_l1New.l0]
      exact Ev.pos (by omega) (Ev.neg hc (Ev.now _))

end Go.Proofs.YtpmcedhcdmpmlaaDoor.Pn
