/- Numbers read from texts: the reference's loop and the library's reading come to the same. No condition beyond the sizes named. -/
import Derived.Test.YtpmcedhcdmpmlaaDoorPn4
import Derived.Test.YtpmcedhcdmpmlaaDoorPn5
import Derived.Test.YtpmcedhcdmpmlaaDoorPnFmtInt
import Derived.Test.YtpmcedhcdmpmlaaDoorPnParseP
import Derived.Test.YtpmcedhcdmpmlaaDoorPl
import Derived.Test.YtpmcedhcdmpmlaaDoorExt
namespace Go.Proofs.YtpmcedhcdmpmlaaDoor.Pn
open Go.RowKit Go.Proofs.YtpmcedhcdmpmlaaDoorW.PrintWords Go.Proofs.YtpmcedhcdmpmlaaDoorW.PrintLast Go.Proofs.YtpmcedhcdmpmlaaDoor.Pl Go.Proofs.YtpmcedhcdmpmlaaDoor.Ext
set_option linter.unusedVariables false
set_option linter.unusedSimpArgs false
theorem toList_iff (a b : ByteArray) : a.toList = b.toList ↔ a = b := ⟨fun h => baExt (by rwa [ByteArray.toList_eq, ByteArray.toList_eq] at h), fun h => by rw [h]⟩
theorem bt_list (s : ByteArray) (i : Nat) (h : i < s.size) : bt s (i : Int) = ((s.data.toList.getD i 0).toNat : Int) := by
  have h' : ((i : Int)).toNat < s.size := by simpa using h
  rw [← bt_at s (i : Int) h']
  have hl : i < s.data.toList.length := by rw [Array.length_toList]; exact h
  rw [List.getD_eq_getElem?_getD, List.getElem?_eq_getElem hl]
  rfl
def valF (n : Nat) (l : List UInt8) : Nat := l.foldl (fun a c => a * 10 + (c.toNat - 48)) n
theorem valF_lt : ∀ (l : List UInt8) (n : Nat), l.all dig = true → valF n l < (n + 1) * 10 ^ l.length
  | [], n, _ => by simp [valF]
  | c :: r, n, h => by
    simp only [List.all_cons, Bool.and_eq_true, dig, decide_eq_true_eq] at h
    have ih := valF_lt r (n * 10 + (c.toNat - 48)) h.2
    have e : valF n (c :: r) = valF (n * 10 + (c.toNat - 48)) r := rfl
    rw [e, List.length_cons, Nat.pow_succ]
    refine Nat.lt_of_lt_of_le ih ?_
    rw [Nat.mul_comm (10 ^ r.length) 10, ← Nat.mul_assoc]
    exact Nat.mul_le_mul_right _ (by omega)
theorem valF_app (n : Nat) (l r : List UInt8) : valF n (l ++ r) = valF (valF n l) r := List.foldl_append
theorem valF_dec : ∀ u : Nat, valF 0 (Lib.decDigits u) = u := by
  intro u
  induction u using Nat.strongRecOn with
  | _ u ih =>
    by_cases h : u < 10
    · rw [Lib.decDigits, dif_pos h]
      simp only [valF, List.foldl_cons, List.foldl_nil, digN u h]; omega
    · rw [Lib.decDigits, dif_neg h, valF_app, ih (u / 10) (by omega)]
      simp only [valF, List.foldl_cons, List.foldl_nil, digN (u % 10) (Nat.mod_lt _ (by decide))]; omega
theorem dec_len : ∀ (k u : Nat), u < 10 ^ (k + 1) → (Lib.decDigits u).length ≤ k + 1 := by
  intro k
  induction k with
  | zero => intro u h; rw [Lib.decDigits, dif_pos (by omega)]; simp
  | succ k ih =>
    intro u h
    by_cases h10 : u < 10
    · rw [Lib.decDigits, dif_pos h10]; simp
    · rw [Lib.decDigits, dif_neg h10, List.length_append]
      have := ih (u / 10) (by rw [Nat.pow_succ] at h; omega)
      simp only [List.length_cons, List.length_nil]
      omega
/-- What is answered for a number. -/
def outR (s : ByteArray) (v : Int) : Int × Bool := if itB v = s then (v, true) else (0, false)
/-- What the reference's loop ends with, behind the digits that are read. -/
def finR (s : ByteArray) (neg : Bool) (n : Nat) (l : List UInt8) : Int × Bool :=
  if l.all dig = true then outR s (if neg = true then -((valF n l : Nat) : Int) else ((valF n l : Nat) : Int)) else (0, false)
theorem outR_eq (s : ByteArray) (v : Int) : (if (itB v).toList = s.toList then (some (v, true)) else (some (0, false))) = some (outR s v) := by
  unfold outR
  by_cases h : itB v = s
  · rw [if_pos h, if_pos ((toList_iff _ _).2 h)]
  · rw [if_neg h, if_neg (fun e => h ((toList_iff _ _).1 e))]
theorem read_loop (s t : ByteArray) (neg : Bool) (ht : t.size ≤ 12) : ∀ m i, i + m = t.size → ∀ n : Nat, n < 10 ^ i → Ev (fun k => spec_l1Read.l0 k s neg t (n : Int) (i : Int)) (finR s neg n (t.data.toList.drop i)) := by
  have hlen : t.data.toList.length = t.size := Array.length_toList
  intro m
  induction m with
  | zero =>
    intro i hi n hn
    have hq : 10 ^ i ≤ 10 ^ 12 := Nat.pow_le_pow_right (by decide) (by omega)
    rw [List.drop_of_length_le (by omega)]
    refine Ev.up ?_
    simp only [spec_l1Read.l0]
    refine Ev.neg (by omega) ?_
    have e0 : finR s neg n [] = outR s (if neg = true then -(n : Int) else (n : Int)) := by simp [finR, valF]
    rw [e0]
    cases neg with
    | true =>
      refine Ev.pos rfl ?_
      rw [w64 (a := -(n : Int)) (by omega) (by omega), if_pos rfl]
      refine Ev.bind (spec_FormatInt_ev (-(n : Int)) (by omega) (by omega)) ?_
      rw [outR_eq]
      exact Ev.now _
    | false =>
      refine Ev.neg (by simp) ?_
      rw [if_neg (by simp)]
      refine Ev.bind (spec_FormatInt_ev (n : Int) (by omega) (by omega)) ?_
      rw [outR_eq]
      exact Ev.now _
  | succ m ih =>
    intro i hi n hn
    have hlt : i < t.size := by omega
    have hb := bt_list t i hlt
    have hd : t.data.toList.drop i = t.data.toList.getD i 0 :: t.data.toList.drop (i + 1) := by
      rw [List.drop_eq_getElem_cons (by omega : i < t.data.toList.length)]
      simp [List.getD_eq_getElem?_getD, hlt]
    generalize t.data.toList.getD i 0 = c at hb hd
    have hp : 10 ^ (i + 1) = 10 * 10 ^ i := by rw [Nat.pow_succ, Nat.mul_comm]
    have hq : 10 ^ i ≤ 10 ^ 11 := Nat.pow_le_pow_right (by decide) (by omega)
    rw [hd]
    refine Ev.up ?_
    simp only [spec_l1Read.l0, hb]
    refine Ev.pos (by omega) (Ev.pos (by omega) ?_)
    by_cases hc : dig c = true
    · have hc' := hc
      simp only [dig, decide_eq_true_eq] at hc'
      refine Ev.neg (by omega) (Ev.neg (by omega) ?_)
      have e1 : wrap64 ((wrap64 (10 * (n : Int))) + (((c.toNat : Int) - 48) % 256)) = ((n * 10 + (c.toNat - 48) : Nat) : Int) := by
        rw [w64 (a := 10 * (n : Int)) (by omega) (by omega), w64 (by omega) (by omega)]; omega
      rw [e1, w1 (n := t.size) hlt (by unfold maxLen; omega)]
      have e2 : finR s neg n (c :: t.data.toList.drop (i + 1)) = finR s neg (n * 10 + (c.toNat - 48)) (t.data.toList.drop (i + 1)) := by
        simp only [finR, List.all_cons, hc, Bool.true_and, valF, List.foldl_cons]
      rw [e2]
      exact ih (i + 1) (by omega) _ (by omega)
    · have e2 : finR s neg n (c :: t.data.toList.drop (i + 1)) = (0, false) := by
        simp only [finR, List.all_cons, Bool.eq_false_iff.2 hc, Bool.false_and]; rfl
      rw [e2]
      simp only [dig, decide_eq_true_eq] at hc
      by_cases h48 : (c.toNat : Int) < 48
      · exact Ev.pos h48 (Ev.now _)
      · exact Ev.neg h48 (Ev.pos (by omega) (Ev.now _))
/-- What the reference reads. -/
def rdR (s : ByteArray) (most : Nat) : Int × Bool :=
  if s.data.toList.head? = some 45 then (if (s.data.toList.drop 1).length < 1 ∨ most < (s.data.toList.drop 1).length then (0, false) else finR s true 0 (s.data.toList.drop 1))
  else if s.data.toList.length < 1 ∨ most < s.data.toList.length then (0, false) else finR s false 0 s.data.toList
theorem read_j1 (s t : ByteArray) (neg : Bool) (most : Nat) (hm : most ≤ 12) : Ev (fun k => spec_l1Read.j1 k s (most : Int) neg t) (if t.data.toList.length < 1 ∨ most < t.data.toList.length then (0, false) else finR s neg 0 t.data.toList) := by
  have hlen : t.data.toList.length = t.size := Array.length_toList
  rw [hlen]
  have j2 : ∀ b : Bool, (b = false → t.size ≤ 12) → Ev (fun k => spec_l1Read.j2 k s neg t b) (if b = true then (0, false) else finR s neg 0 t.data.toList) := by
    intro b hb
    refine Ev.up ?_
    simp only [spec_l1Read.j2]
    refine Ev.cases (fun h => by rw [if_pos h]; exact Ev.now _) (fun h => ?_)
    rw [if_neg h]
    have := read_loop s t neg (hb (by simpa using h)) t.size 0 (by omega) 0 (by decide)
    simpa using this
  refine Ev.up ?_
  simp only [spec_l1Read.j1]
  refine Ev.cases (fun h => ?_) (fun h => ?_)
  · rw [if_pos (Or.inl (by omega))]
    exact j2 true (fun h => by cases h)
  · by_cases hb : most < t.size
    · rw [if_pos (Or.inr hb), decide_eq_true (by omega : (t.size : Int) > (most : Int))]
      exact j2 true (fun h => by cases h)
    · rw [if_neg (by omega), decide_eq_false (by omega : ¬ (t.size : Int) > (most : Int))]
      exact j2 false (fun _ => by omega)
theorem extract_drop (s : ByteArray) : (s.extract 1 s.size).data.toList = s.data.toList.drop 1 := by
  rw [ByteArray.data_extract, Array.toList_extract]
  simp only [List.extract]
  exact List.take_of_length_le (by rw [List.length_drop, Array.length_toList]; exact Nat.le_refl _)
theorem spec_l1Read_ev (s : ByteArray) (most : Nat) (hm : most ≤ 12) : Ev (fun k => spec_l1Read.f k s (most : Int)) (rdR s most) := by
  have hlen : s.data.toList.length = s.size := Array.length_toList
  simp only [spec_l1Read.f, rdR]
  refine Ev.cases (fun h => ?_) (fun h => ?_)
  · refine Ev.pos (by omega) (Ev.up ?_)
    simp only [spec_l1Read.j0]
    have hb := bt_list s 0 (by omega)
    have hh : s.data.toList.head? = some (s.data.toList.getD 0 0) := by
      cases hl : s.data.toList with
      | nil => rw [hl] at hlen; simp at hlen; omega
      | cons c r => rfl
    rw [hh]
    generalize s.data.toList.getD 0 0 = c at hb
    have hb' : bt s 0 = (c.toNat : Int) := hb
    rw [hb']
    by_cases hc : c = 45
    · subst hc
      rw [if_pos rfl]
      refine Ev.pos (by decide) (Ev.pos (by omega) ?_)
      have := read_j1 s (s.extract 1 s.size) true most hm
      rw [extract_drop] at this
      exact this
    · have hn : c.toNat ≠ 45 := fun e => hc (UInt8.toNat_inj.1 e)
      rw [if_neg (by simpa using hc)]
      have e1 : ((c.toNat : Int) == 45) = false := by simp; omega
      rw [e1]
      exact Ev.neg (by simp) (read_j1 s s false most hm)
  · have h0 : s.data.toList = [] := List.length_eq_zero_iff.1 (by omega)
    refine Ev.up ?_
    simp only [spec_l1Read.j0]
    rw [if_neg (by rw [h0]; simp)]
    exact Ev.neg (by simp) (read_j1 s s false most hm)
theorem finR_told (s : ByteArray) (neg : Bool) (l : List UInt8) (most : Nat) (B : Int) (hB : B = (10 ^ most : Nat) - 1) (hl : l.length ≤ most) (hno : ∀ v, -B ≤ v → v ≤ B → s ≠ itB v) : finR s neg 0 l = (0, false) := by
  unfold finR
  by_cases ha : l.all dig = true
  · rw [if_pos ha]
    have h1 := valF_lt l 0 ha
    have h2 : 10 ^ l.length ≤ 10 ^ most := Nat.pow_le_pow_right (by decide) hl
    unfold outR
    rw [if_neg]
    intro e
    refine hno _ ?_ ?_ e.symm
    · split <;> omega
    · split <;> omega
  · rw [if_neg ha]
theorem spec_told (s : ByteArray) (most : Nat) (h1m : 1 ≤ most) (hm : most ≤ 12) (B : Int) (hB : B = (10 ^ most : Nat) - 1) : Told s (-B) B (rdR s most) := by
  by_cases hex : ∃ v, -B ≤ v ∧ v ≤ B ∧ s = itB v
  · obtain ⟨v, h0, h1, rfl⟩ := hex
    refine Or.inl ⟨v, h0, h1, rfl, ?_⟩
    obtain ⟨k, rfl⟩ : ∃ k, most = k + 1 := ⟨most - 1, by omega⟩
    have hi : (itB v).data.toList = Lib.itoa v := rfl
    unfold rdR
    rw [hi]
    by_cases hv : v < 0
    · have e : Lib.itoa v = 45 :: Lib.decDigits v.natAbs := by unfold Lib.itoa; rw [if_pos hv]
      have hl := dec_len k v.natAbs (by omega)
      have hp : 0 < (Lib.decDigits v.natAbs).length := List.length_pos_iff.2 (dec_ne _)
      rw [e, if_pos (show (45 :: Lib.decDigits v.natAbs).head? = some 45 from rfl), List.drop_succ_cons, List.drop_zero, if_neg (by omega)]
      unfold finR
      rw [if_pos (dec_dig _), valF_dec]
      have ev : -((v.natAbs : Nat) : Int) = v := by omega
      rw [if_pos rfl, ev, outR, if_pos rfl]
    · have e : Lib.itoa v = Lib.decDigits v.toNat := by unfold Lib.itoa; rw [if_neg hv]
      have hl := dec_len k v.toNat (by omega)
      have hp : 0 < (Lib.decDigits v.toNat).length := List.length_pos_iff.2 (dec_ne _)
      have hd := dec_dig v.toNat
      have hh : (Lib.decDigits v.toNat).head? ≠ some 45 := by
        intro hc
        cases hl : Lib.decDigits v.toNat with
        | nil => rw [hl] at hc; cases hc
        | cons c r =>
          rw [hl] at hc hd
          simp only [List.head?_cons, Option.some.injEq] at hc
          subst hc
          simp [dig] at hd
      rw [e, if_neg hh, if_neg (by omega)]
      unfold finR
      rw [if_pos hd, valF_dec]
      have ev : ((v.toNat : Nat) : Int) = v := by omega
      rw [if_neg (by simp), ev, outR, if_pos rfl]
  · have hno : ∀ v, -B ≤ v → v ≤ B → s ≠ itB v := fun v a b c => hex ⟨v, a, b, c⟩
    refine Or.inr ⟨hno, ?_⟩
    unfold rdR
    split
    · split
      · rfl
      · exact finR_told s true _ most B hB (by omega) hno
    · split
      · rfl
      · exact finR_told s false _ most B hB (by omega) hno
theorem impl_told (s : ByteArray) (hs : s.size ≤ 1048576) (low high : Int) (h0 : -1000000000000 < low) (h1 : high < 1000000000000) : ∃ r, impl_readInt.f s low high = some r ∧ Told s low high r := by
  unfold impl_readInt.f
  rw [if_pos (by omega)]
  cases hA : Lib.atoiAll s.data.toList with
  | ok v =>
    have one : ∀ v', low ≤ v' → v' ≤ high → s = itB v' → v' = v := by
      rintro v' a b rfl
      have := itB_atoi v' (by omega) (by omega)
      rw [hA] at this
      injection this with this
      exact this.symm
    simp only []
    by_cases c1 : v < low
    · rw [if_pos c1]
      exact ⟨_, rfl, Or.inr ⟨fun v' a b c => by have := one v' a b c; omega, rfl⟩⟩
    rw [if_neg c1]
    by_cases c2 : v > high
    · rw [if_pos c2]
      exact ⟨_, rfl, Or.inr ⟨fun v' a b c => by have := one v' a b c; omega, rfl⟩⟩
    rw [if_neg c2, impl_FormatInt_eq v (by omega) (by omega)]
    simp only [Option.bind_some]
    by_cases c3 : (itB v).toList = s.toList
    · rw [if_pos c3]
      exact ⟨_, rfl, Or.inl ⟨v, by omega, by omega, ((toList_iff _ _).1 c3).symm, rfl⟩⟩
    · rw [if_neg c3]
      refine ⟨_, rfl, Or.inr ⟨fun v' a b c => ?_, rfl⟩⟩
      have := one v' a b c
      subst this
      exact c3 (by rw [← c])
  | _ =>
    refine ⟨_, rfl, Or.inr ⟨?_, rfl⟩⟩
    rintro v' a b rfl
    have := itB_atoi v' (by omega) (by omega)
    rw [hA] at this
    cases this
theorem ParseNumber_same (s : ByteArray) (hs : s.size ≤ 1048576) : ∃ r, Ev (fun k => spec_ParseNumber.f k s) r ∧ impl_ParseNumber.f s = some r := by
  obtain ⟨r, h1, h2⟩ := impl_told s hs 0 999999 (by decide) (by decide)
  have h3 := spec_told s 6 (by decide) (by decide) 999999 (by decide)
  have hr : Ev (fun k => spec_ParseNumber.f k s) (if (rdR s 6).2 = true then (if (rdR s 6).1 < 0 then (0, false) else ((rdR s 6).1, true)) else (0, false)) := by
    simp only [spec_ParseNumber.f]
    refine Ev.bind (spec_l1Read_ev s 6 (by decide)) ?_
    refine Ev.cases (fun a => ?_) (fun a => ?_)
    · rw [if_pos a]
      exact Ev.cases (fun b => by rw [if_pos b]; exact Ev.now _) (fun b => by rw [if_neg b]; exact Ev.now _)
    · rw [if_neg a]; exact Ev.now _
  have h4 : Told s 0 999999 (if (rdR s 6).2 = true then (if (rdR s 6).1 < 0 then (0, false) else ((rdR s 6).1, true)) else (0, false)) := by
    rcases h3 with ⟨v, a, b, c, d⟩ | ⟨a, d⟩
    · rw [d]
      simp only [if_true]
      by_cases hv : v < 0
      · rw [if_pos hv]
        refine Or.inr ⟨?_, rfl⟩
        intro v' a' b' c'
        have e1 := itB_atoi v (by omega) (by omega)
        have e2 := itB_atoi v' (by omega) (by omega)
        rw [← c] at e1
        rw [← c', e1] at e2
        injection e2 with e2
        omega
      · rw [if_neg hv]
        exact Or.inl ⟨v, by omega, b, c, rfl⟩
    · rw [d]
      exact Or.inr ⟨fun v' a' b' => a v' (by omega) b', rfl⟩
  have e := Told_one (by decide) (by decide) h2 h4
  refine ⟨_, hr, ?_⟩
  rw [← e]
  simp only [impl_ParseNumber.f, h1, Option.bind_some]

end Go.Proofs.YtpmcedhcdmpmlaaDoor.Pn
