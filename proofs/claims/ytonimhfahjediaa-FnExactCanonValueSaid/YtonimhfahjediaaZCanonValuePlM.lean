/- Plain words for the pure statements: what a function with rounds comes to, loops, cuts of a budget. No condition. -/
import Derived.Test.YtonimhfahjediaaZCanonValueWWords
import Derived.Test.YtonimhfahjediaaZCanonValueWLastM
import Derived.Test.YtonimhfahjediaaZCanonValuePk3M
import Derived.Test.YtonimhfahjediaaZCanonValueWTabM
import Derived.Test.YtonimhfahjediaaZCanonValuePk11M
import Derived.Lib.Strings
section
namespace Go.Proofs.Ytonimhfahjediaa.Pl
open Go.RowKit Go.Proofs.YtonimhfahjediaaW.PrintWords
set_option linter.unusedVariables false
theorem Ev.up {α : Type} {g : Nat → Option α} {r : α} (h : Ev (fun k => g (k + 1)) r) : Ev g r := Ev.step (f := fun k => g (k + 1)) (fun _ => rfl) h
theorem Ev.pos {α : Type} {A B : Nat → Option α} {r : α} {c : Prop} [Decidable c] (hc : c) (h : Ev A r) : Ev (fun n => if c then A n else B n) r :=
  Ev.congr (f := A) (fun k => by rw [if_pos hc]) h
theorem Ev.neg {α : Type} {A B : Nat → Option α} {r : α} {c : Prop} [Decidable c] (hc : ¬ c) (h : Ev B r) : Ev (fun n => if c then A n else B n) r :=
  Ev.congr (f := B) (fun k => by rw [if_neg hc]) h
theorem Ev.cases {α : Type} {A B : Nat → Option α} {r : α} {c : Prop} [Decidable c] (h1 : c → Ev A r) (h2 : ¬ c → Ev B r) : Ev (fun n => if c then A n else B n) r := by
  by_cases hc : c
  · exact Ev.pos hc (h1 hc)
  · exact Ev.neg hc (h2 hc)
theorem Ev.eq {α : Type} {g : Nat → Option α} {r r' : α} (h : Ev g r) (e : r = r') : Ev g r' := e ▸ h
theorem Ev.const {α : Type} {a r : α} (e : a = r) : Ev (fun _ => some a) r := by subst e; exact Ev.now _
theorem Ev.none_bind {α β : Type} {a : α} {f : Nat → α → Option β} {r : β} (h : Ev (fun n => f n a) r) : Ev (fun n => (some a).bind (f n)) r := h
/-- A call without rounds. -/
theorem Ev.fix {α β : Type} {g : Option α} {a : α} {f : Nat → α → Option β} {r : β} (hg : g = some a) (h : Ev (fun n => f n a) r) : Ev (fun n => g.bind (f n)) r := by subst hg; exact h
theorem w1 {i n : Nat} (h : i < n) (hn : n ≤ maxLen) : wrap64 ((i : Int) + 1) = ((i + 1 : Nat) : Int) := by
  have : n ≤ 9223372036854775807 := hn
  unfold wrap64
  omega
theorem w1' {i n : Nat} (h : i < n) (hn : n ≤ 1048576) : wrap64 ((i : Int) + 1) = ((i + 1 : Nat) : Int) := w1 h (by unfold maxLen; omega)
theorem w64 {a : Int} (h : -9223372036854775808 ≤ a) (h2 : a ≤ 9223372036854775807) : wrap64 a = a := by unfold wrap64; omega
/-- What is left of a budget, or -1. -/
def cut (n : Nat) (left : Int) : Int := if (n : Int) ≤ left then left - n else -1
theorem cut_zero {left : Int} (h : 0 ≤ left) : cut 0 left = left := by unfold cut; rw [if_pos (by omega)]; omega
theorem cut_neg {n : Nat} {left : Int} : cut n left < 0 ↔ ¬ ((n : Int) ≤ left) := by
  unfold cut
  split <;> omega
theorem cut_le {n : Nat} {left : Int} (h : 0 ≤ left) : cut n left ≤ left := by unfold cut; split <;> omega
theorem cut_add {m n : Nat} {left : Int} (h : 0 ≤ cut m left) : cut n (cut m left) = cut (m + n) left := by
  unfold cut at *
  split at h
  · rename_i h1
    simp only [if_pos h1]
    by_cases h2 : (n : Int) ≤ left - m
    · rw [if_pos h2, if_pos (by omega)]; omega
    · rw [if_neg h2, if_neg (by omega)]
  · omega
theorem cut_add' {m n : Nat} {left : Int} (h : cut m left < 0) : cut (m + n) left = -1 := by
  have := cut_neg.1 h
  unfold cut
  rw [if_neg (by omega)]
/-- 'left -= n; if left < 0 { return -1 }' -/
theorem cut_sub {n : Nat} {left : Int} (h : 0 ≤ left) (hl : left ≤ 1048576) (hn : n ≤ maxLen) : (wrap64 (left - (n : Int)) < 0 ↔ cut n left < 0) ∧ (0 ≤ cut n left → wrap64 (left - (n : Int)) = cut n left) := by
  have hn' : n ≤ 9223372036854775807 := hn
  have e : wrap64 (left - (n : Int)) = left - n := w64 (by omega) (by omega)
  rw [e, cut_neg]
  unfold cut
  constructor
  · omega
  · intro h2
    split at h2
    · rename_i h3; rw [if_pos h3]
    · omega
def sumF (W : Nat → Nat) : Nat → Nat → Nat
  | _, 0 => 0
  | i, m + 1 => W i + sumF W (i + 1) m
theorem sz_loop (n : Nat) (X : Nat → Nat → Int → Option Int) (L : Nat → Int → Nat → Option Int) (W : Nat → Nat)
    (h1 : ∀ k left i, i < n → L (k + 1) left i = (X k i left).bind fun t => if t < 0 then some (-1) else L k t (i + 1))
    (h2 : ∀ k left, L (k + 1) left n = some left)
    (hX : ∀ i left, i < n → 0 ≤ left → left ≤ 1048576 → Ev (fun k => X k i left) (cut (W i) left)) :
    ∀ m i left, i + m = n → 0 ≤ left → left ≤ 1048576 → Ev (fun k => L k left i) (cut (sumF W i m) left) := by
  intro m
  induction m with
  | zero =>
    intro i left hi h0 hl
    obtain rfl : i = n := by omega
    refine Ev.step (h2 · left) ?_
    exact Ev.const (cut_zero h0).symm
  | succ m ih =>
    intro i left hi h0 hl
    refine Ev.step (fun k => h1 k left i (by omega)) (Ev.bind (hX i left (by omega) h0 hl) ?_)
    by_cases hc : cut (W i) left < 0
    · exact Ev.pos hc (Ev.const (cut_add' hc).symm)
    · refine Ev.neg hc (Ev.eq (ih (i + 1) _ (by omega) (by omega) ?_) (cut_add (by omega)))
      have := cut_le (n := W i) h0
      omega
theorem sz_loop' (n : Nat) (L : Nat → Int → Nat → Option Int) (W : Nat → Nat)
    (h1 : ∀ k left i, i < n → 0 ≤ left → left ≤ 1048576 → L (k + 1) left i = if cut (W i) left < 0 then some (-1) else L k (cut (W i) left) (i + 1))
    (h2 : ∀ k left, L (k + 1) left n = some left) :
    ∀ m i left, i + m = n → 0 ≤ left → left ≤ 1048576 → Ev (fun k => L k left i) (cut (sumF W i m) left) := by
  intro m
  induction m with
  | zero =>
    intro i left hi h0 hl
    obtain rfl : i = n := by omega
    refine Ev.step (h2 · left) ?_
    exact Ev.const (cut_zero h0).symm
  | succ m ih =>
    intro i left hi h0 hl
    refine Ev.step (fun k => h1 k left i (by omega) h0 hl) ?_
    by_cases hc : cut (W i) left < 0
    · exact Ev.pos hc (Ev.const (cut_add' hc).symm)
    · refine Ev.neg hc (Ev.eq (ih (i + 1) _ (by omega) (by omega) ?_) (cut_add (by omega)))
      have := cut_le (n := W i) h0
      omega
theorem Ev.map {α β : Type} {g : Nat → Option α} {a : α} (f : α → β) (h : Ev g a) : Ev (fun k => (g k).map f) (f a) := by
  obtain ⟨K, hK⟩ := h
  exact ⟨K, fun k hk => by show (g k).map f = _; rw [hK k hk]; rfl⟩
theorem to_loop {α : Type} (n : Nat) (X : Nat → Nat → Option α) (L : Nat → List α → Nat → Option (List α)) (v : Nat → α)
    (h1 : ∀ k out i, i < n → out.length = n → L (k + 1) out i = (X k i).bind fun t => L k (out.set i t) (i + 1))
    (h2 : ∀ k out, L (k + 1) out n = some out)
    (hX : ∀ i, i < n → Ev (fun k => X k i) (v i)) :
    ∀ m i out, i + m = n → out.length = n → Ev (fun k => L k out i) (out.take i ++ (List.range' i m).map v) := by
  intro m
  induction m with
  | zero =>
    intro i out hi hl
    obtain rfl : i = n := by omega
    refine Ev.step (h2 · out) (Ev.const ?_)
    simp [← hl]
  | succ m ih =>
    intro i out hi hl
    refine Ev.step (fun k => h1 k out i (by omega) hl) (Ev.bind (hX i (by omega)) ?_)
    refine Ev.eq (ih (i + 1) (out.set i (v i)) (by omega) (by simpa using hl)) ?_
    rw [List.range'_succ, List.map_cons, List.take_succ_eq_append_getElem (by simp; omega)]
    simp [List.take_set_of_le]
theorem eq_loop (n : Nat) (X : Nat → Nat → Option Bool) (L : Nat → Nat → Option Bool)
    (h1 : ∀ k i, i < n → L (k + 1) i = (X k i).bind fun t => if t = true then L k (i + 1) else some false)
    (h2 : ∀ k, L (k + 1) n = some true)
    (hX : ∀ i, i < n → Ev (fun k => X k i) true) :
    ∀ m i, i + m = n → Ev (fun k => L k i) true := by
  intro m
  induction m with
  | zero =>
    intro i hi
    obtain rfl : i = n := by omega
    exact Ev.step h2 (Ev.now _)
  | succ m ih =>
    intro i hi
    exact Ev.step (fun k => h1 k i (by omega)) (Ev.bind (hX i (by omega)) (Ev.pos rfl (ih (i + 1) (by omega))))
theorem range_map_getElem {α β : Type} (f : α → β) (d : α) (xs : List α) : (List.range' 0 xs.length).map (fun i => f (xs.getD i d)) = xs.map f := by
  apply List.ext_getElem
  · simp
  · intro i h1 h2
    simp at h1
    simp [h1]
theorem sumF_list {α : Type} (f : α → Nat) (d : α) (xs : List α) : ∀ m i, i + m = xs.length → sumF (fun i => f (xs.getD i d)) i m = ((xs.drop i).map f).sum := by
  intro m
  induction m with
  | zero => intro i hi; simp [sumF, List.drop_of_length_le (show xs.length ≤ i by omega)]
  | succ m ih =>
    intro i hi
    have hlt : i < xs.length := by omega
    rw [List.drop_eq_getElem_cons hlt, List.map_cons, List.sum_cons, sumF, ih (i + 1) (by omega)]
    simp [List.getD_eq_getElem?_getD, hlt]
def szs (xs : List ByteArray) : Nat := (xs.map ByteArray.size).sum
def wts (xs : List ByteArray) : Nat := xs.length + szs xs
theorem rdOf_str (xs : List ByteArray) (i : Nat) : rdOf ByteArray.empty xs (i : Int) = xs.getD i ByteArray.empty := by simp [rdOf]
theorem mem_getD {α : Type} (xs : List α) (d : α) (i : Nat) (h : i < xs.length) : xs.getD i d ∈ xs := by
  simp [List.getD_eq_getElem?_getD, h]
theorem sum_le_of_mem {α : Type} (f : α → Nat) {xs : List α} {x : α} (h : x ∈ xs) : f x ≤ (xs.map f).sum := by
  induction xs with
  | nil => cases h
  | cons y ys ih =>
    rcases List.mem_cons.1 h with rfl | h
    · simp
    · have := ih h
      simp
      omega
/-- Two texts with rounds come to the same. -/
def Same {α : Type} (f g : Nat → Option α) : Prop := ∃ r, Ev f r ∧ Ev g r
theorem Same.ret {α : Type} {a b : α} (h : a = b) : Same (fun _ => some a) (fun _ => some b) := ⟨a, Ev.now a, Ev.const h.symm⟩
theorem Same.symm {α : Type} {f g : Nat → Option α} (h : Same f g) : Same g f := let ⟨r, a, b⟩ := h; ⟨r, b, a⟩
theorem Same.bind {α β : Type} {f g : Nat → Option α} {F G : Nat → α → Option β} (h : Same f g) (k : ∀ r, Ev f r → Ev g r → Same (F · r) (G · r)) : Same (fun n => (f n).bind (F n)) (fun n => (g n).bind (G n)) := by
  obtain ⟨r, a, b⟩ := h
  obtain ⟨s, c, d⟩ := k r a b
  exact ⟨s, Ev.bind a c, Ev.bind b d⟩
theorem Same.bindL {α β : Type} {f : Nat → Option α} {F : Nat → α → Option β} {g : Nat → Option β} {a : α} (h : Ev f a) (k : Same (F · a) g) : Same (fun n => (f n).bind (F n)) g := by
  obtain ⟨s, c, d⟩ := k
  exact ⟨s, Ev.bind h c, d⟩
theorem Same.bindR {α β : Type} {f : Nat → Option α} {F : Nat → α → Option β} {g : Nat → Option β} {a : α} (h : Ev f a) (k : Same g (F · a)) : Same g (fun n => (f n).bind (F n)) := (Same.bindL h k.symm).symm
theorem Same.posL {α : Type} {A B g : Nat → Option α} {c : Prop} [Decidable c] (hc : c) (h : Same A g) : Same (fun n => if c then A n else B n) g := let ⟨r, a, b⟩ := h; ⟨r, Ev.pos hc a, b⟩
theorem Same.negL {α : Type} {A B g : Nat → Option α} {c : Prop} [Decidable c] (hc : ¬ c) (h : Same B g) : Same (fun n => if c then A n else B n) g := let ⟨r, a, b⟩ := h; ⟨r, Ev.neg hc a, b⟩
theorem Same.posR {α : Type} {A B g : Nat → Option α} {c : Prop} [Decidable c] (hc : c) (h : Same g A) : Same g (fun n => if c then A n else B n) := let ⟨r, a, b⟩ := h; ⟨r, a, Ev.pos hc b⟩
theorem Same.negR {α : Type} {A B g : Nat → Option α} {c : Prop} [Decidable c] (hc : ¬ c) (h : Same g B) : Same g (fun n => if c then A n else B n) := let ⟨r, a, b⟩ := h; ⟨r, a, Ev.neg hc b⟩
theorem Same.pos {α : Type} {A B C D : Nat → Option α} {c d : Prop} [Decidable c] [Decidable d] (hc : c) (hd : d) (h : Same A C) : Same (fun n => if c then A n else B n) (fun n => if d then C n else D n) := Same.posL hc (Same.posR hd h)
theorem Same.neg {α : Type} {A B C D : Nat → Option α} {c d : Prop} [Decidable c] [Decidable d] (hc : ¬ c) (hd : ¬ d) (h : Same B D) : Same (fun n => if c then A n else B n) (fun n => if d then C n else D n) := Same.negL hc (Same.negR hd h)
theorem Same.ite {α : Type} {A B C D : Nat → Option α} {c d : Prop} [Decidable c] [Decidable d] (e : c ↔ d) (h1 : c → Same A C) (h2 : ¬ c → Same B D) : Same (fun n => if c then A n else B n) (fun n => if d then C n else D n) := by
  by_cases hc : c
  · exact Same.pos hc (e.1 hc) (h1 hc)
  · exact Same.neg hc (fun h => hc (e.2 h)) (h2 hc)
theorem Same.casesL {α : Type} {A B g : Nat → Option α} {c : Prop} [Decidable c] (h1 : c → Same A g) (h2 : ¬ c → Same B g) : Same (fun n => if c then A n else B n) g := by
  by_cases hc : c
  · exact Same.posL hc (h1 hc)
  · exact Same.negL hc (h2 hc)
theorem Same.casesR {α : Type} {A B g : Nat → Option α} {c : Prop} [Decidable c] (h1 : c → Same g A) (h2 : ¬ c → Same g B) : Same g (fun n => if c then A n else B n) := by
  by_cases hc : c
  · exact Same.posR hc (h1 hc)
  · exact Same.negR hc (h2 hc)
theorem Same.up {α : Type} {f g : Nat → Option α} (h : Same (fun k => f (k + 1)) (fun k => g (k + 1))) : Same f g := let ⟨r, a, b⟩ := h; ⟨r, Ev.up a, Ev.up b⟩
theorem Same.upL {α : Type} {f g : Nat → Option α} (h : Same (fun k => f (k + 1)) g) : Same f g := let ⟨r, a, b⟩ := h; ⟨r, Ev.up a, b⟩
/-- A loop over an index, on both sides, with one state. -/
theorem Same.loop {σ ρ : Type} (n : Nat) (L M : Nat → σ → Nat → Option ρ) (hend : ∀ s, Same (fun k => L k s n) (fun k => M k s n))
    (hstep : ∀ i s, i < n → (∀ s', Same (fun k => L k s' (i + 1)) (fun k => M k s' (i + 1))) → Same (fun k => L k s i) (fun k => M k s i)) : ∀ s, Same (fun k => L k s 0) (fun k => M k s 0) := by
  suffices h : ∀ m i s, i + m = n → Same (fun k => L k s i) (fun k => M k s i) from fun s => h n 0 s (by omega)
  intro m
  induction m with
  | zero => intro i s hi; obtain rfl : i = n := by omega
            exact hend s
  | succ m ih => intro i s hi; exact hstep i s (by omega) (fun s' => ih (i + 1) s' (by omega))
/-- A loop over an index, on both sides, with one state, and what holds of it. -/
theorem Same.loopI {σ ρ : Type} (n : Nat) (I : Nat → σ → Prop) (L M : Nat → σ → Nat → Option ρ) (hend : ∀ s, I n s → Same (fun k => L k s n) (fun k => M k s n))
    (hstep : ∀ i s, i < n → I i s → (∀ s', I (i + 1) s' → Same (fun k => L k s' (i + 1)) (fun k => M k s' (i + 1))) → Same (fun k => L k s i) (fun k => M k s i)) : ∀ s, I 0 s → Same (fun k => L k s 0) (fun k => M k s 0) := by
  suffices h : ∀ m i s, i + m = n → I i s → Same (fun k => L k s i) (fun k => M k s i) from fun s => h n 0 s (by omega)
  intro m
  induction m with
  | zero => intro i s hi hI; obtain rfl : i = n := by omega
            exact hend s hI
  | succ m ih => intro i s hi hI; exact hstep i s (by omega) hI (fun s' => ih (i + 1) s' (by omega))
end Go.Proofs.Ytonimhfahjediaa.Pl
end
section
namespace Go.Proofs.Ytonimhfahjediaa.Pk
open Go.RowKit Go.Proofs.YtonimhfahjediaaW.PrintWords Go.Proofs.YtonimhfahjediaaW.PrintLast Go.Proofs.Ytonimhfahjediaa.Pl Go.Proofs.Ytonimhfahjediaa.Ext
set_option linter.unusedVariables false
set_option linter.unusedSimpArgs false
theorem spec_l1Bit_eq (b : Bool) : spec_l1Bit.f b = some (if b = true then 1 else 0) := by
  unfold spec_l1Bit.f; split <;> rfl

end Go.Proofs.Ytonimhfahjediaa.Pk
end
section
namespace Go.Proofs.Ytonimhfahjediaa.Pk
open Go.RowKit Go.Proofs.YtonimhfahjediaaW.PrintWords Go.Proofs.Ytonimhfahjediaa.Pl
set_option linter.unusedVariables false
set_option linter.unusedSimpArgs false
theorem szStringS_ev (xs : List ByteArray) (hx : xs.length ≤ maxLen ∧ ∀ y ∈ xs, y.size ≤ maxLen) (left : Int) (h0 : 0 ≤ left) (hl : left ≤ 1048576) : Ev (fun k => laws_szStringS.f k xs left) (cut (wts xs) left) := by
  simp only [laws_szStringS.f]
  have hs := cut_sub (n := xs.length) h0 hl hx.1
  by_cases hc : cut xs.length left < 0
  · exact Ev.pos (hs.1.2 hc) (Ev.const (cut_add' hc).symm)
  · refine Ev.neg (fun h => hc (hs.1.1 h)) ?_
    rw [hs.2 (by omega)]
    have hl2 := cut_le (n := xs.length) h0
    have hw := sz_loop' xs.length (fun k left i => laws_szStringS.l0 k xs left (i : Int)) (fun i => (xs.getD i ByteArray.empty).size) (fun k left i hi h0 hl => by
      have hz := cut_sub (n := (xs.getD i ByteArray.empty).size) h0 hl (hx.2 _ (mem_getD xs _ i hi))
      simp only [laws_szStringS.l0, rdOf_str]
      rw [if_pos (by omega), if_pos (by omega)]
      by_cases hc : cut (xs.getD i ByteArray.empty).size left < 0
      · rw [if_pos (hz.1.2 hc), if_pos hc]
      · rw [if_neg (fun h => hc (hz.1.1 h)), if_neg hc, hz.2 (by omega), w1 hi hx.1]) (fun k left => by simp only [laws_szStringS.l0]; rw [if_neg (by omega)]) xs.length 0 _ (by omega) (show 0 ≤ cut xs.length left by omega) (by omega)
    refine Ev.eq hw ?_
    rw [cut_add (by omega), sumF_list ByteArray.size ByteArray.empty xs xs.length 0 (by omega)]
    rfl
theorem toStringS_ev (xs : List ByteArray) (hx : xs.length ≤ 1048576) : Ev (fun k => laws_toStringS.f k xs) xs := by
  simp only [laws_toStringS.f]
  refine Ev.pos (by omega) (Ev.pos (by omega) ?_)
  have hw := to_loop xs.length (fun k i => some (xs.getD i ByteArray.empty)) (fun k out i => laws_toStringS.l0 k xs out (i : Int)) (fun i => xs.getD i ByteArray.empty) (fun k out i hi hl => by
    simp only [laws_toStringS.l0, rdOf_str]
    rw [if_pos (by omega), if_pos (by omega), if_pos (by omega), w1' hi hx]
    rfl) (fun k out => by simp only [laws_toStringS.l0]; rw [if_neg (by omega)]) (fun i hi => Ev.now _) xs.length 0 (List.replicate ((xs.length : Int)).toNat (⟨#[]⟩ : ByteArray)) (by omega) (by simp)
  refine Ev.eq hw ?_
  rw [List.take_zero, List.nil_append, range_map_getElem (fun x => x) ByteArray.empty xs, List.map_id']
theorem eqStringS_ev (xs : List ByteArray) (hx : xs.length ≤ 1048576) : Ev (fun k => laws_eqStringS.f k xs xs) true := by
  simp only [laws_eqStringS.f]
  refine Ev.pos (by simp) ?_
  exact eq_loop xs.length (fun k i => some true) (fun k i => laws_eqStringS.l0 k xs xs (i : Int)) (fun k i hi => by
    simp only [laws_eqStringS.l0]
    rw [if_pos (by omega), if_pos (by omega), if_pos (by omega), w1' hi hx]
    simp) (fun k => by simp only [laws_eqStringS.l0]; rw [if_neg (by omega)]) (fun i hi => Ev.now _) xs.length 0 (by omega)
end Go.Proofs.Ytonimhfahjediaa.Pk
end
section
namespace Go.Proofs.Ytonimhfahjediaa.Pk
open Go.RowKit Go.Proofs.YtonimhfahjediaaW.PrintWords Go.Proofs.Ytonimhfahjediaa.Pl
set_option linter.unusedVariables false
set_option linter.unusedSimpArgs false
mutual
def wtValue : S25 → Nat
  | ⟨x0, x1, x2, x3⟩ => wts x2 + (x3.length + wtValueS x3)
def wtValueS : List S25 → Nat
  | [] => 0
  | x :: r => wtValue x + wtValueS r
end
mutual
def cvValue : S25 → S30
  | ⟨x0, x1, x2, x3⟩ => ⟨x0, x1, x2, (cvValueS x3)⟩
def cvValueS : List S25 → List S30
  | [] => []
  | x :: r => cvValue x :: cvValueS r
end
theorem wtValueS_sum (xs : List S25) : wtValueS xs = (xs.map wtValue).sum := by
  induction xs with
  | nil => rfl
  | cons x r ih => simp [wtValueS, ih]
theorem cvValueS_map (xs : List S25) : cvValueS xs = xs.map cvValue := by
  induction xs with
  | nil => rfl
  | cons x r ih => simp [cvValueS, ih]
theorem wtValue_eq (x : S25) : wtValue x = wts x.f2 + (x.f3.length + wtValueS x.f3) := by cases x; simp only [wtValue]
theorem cvValue_eq (x : S25) : cvValue x = ⟨x.f0, x.f1, x.f2, (cvValueS x.f3)⟩ := by cases x; simp only [cvValue]
theorem indValueL {P : S25 → Prop} (h : ∀ x, (∀ y ∈ x.f3, P y) → P x) : ∀ x, P x
  | ⟨x0, x1, x2, x3⟩ => h _ (fun y hy => indValueL h y)
termination_by x => SizeOf.sizeOf x
decreasing_by
  have := List.sizeOf_lt_of_mem hy
  simp at this ⊢
  omega
theorem indValueI {P : S30 → Prop} (h : ∀ x, (∀ y ∈ x.f3, P y) → P x) : ∀ x, P x
  | ⟨x0, x1, x2, x3⟩ => h _ (fun y hy => indValueI h y)
termination_by x => SizeOf.sizeOf x
decreasing_by
  have := List.sizeOf_lt_of_mem hy
  simp at this ⊢
  omega
inductive SmValue : S30 → Prop
  | mk {x : S30} : ((Lit.int .i64 x.f0).wf = true) → ((Lit.int .i64 x.f1).wf = true) → ((x.f2.length ≤ 1048576 ∧ ∀ y ∈ x.f2, y.size ≤ 1048576)) → x.f3.length ≤ 1048576 → (∀ y ∈ x.f3, SmValue y) → SmValue x
theorem SmValue.p0 {x : S30} (h : SmValue x) : (Lit.int .i64 x.f0).wf = true := by cases h; assumption
theorem SmValue.p1 {x : S30} (h : SmValue x) : (Lit.int .i64 x.f1).wf = true := by cases h; assumption
theorem SmValue.p2 {x : S30} (h : SmValue x) : (x.f2.length ≤ 1048576 ∧ ∀ y ∈ x.f2, y.size ≤ 1048576) := by cases h; assumption
theorem SmValue.p3 {x : S30} (h : SmValue x) : x.f3.length ≤ 1048576 ∧ ∀ y ∈ x.f3, SmValue y := by cases h; constructor <;> assumption
theorem etaValue (x : S30) : (⟨x.f0, x.f1, x.f2, x.f3⟩ : S30) = x := by obtain ⟨_, _, _, _⟩ := x; rfl
theorem smValue_of : ∀ x : S25, W25 x → wtValue x ≤ 1048576 → SmValue (cvValue x) := by
  refine indValueL fun x ih hw hw2 => ?_
  have hb := hw2
  rw [wtValue_eq] at hb
  rw [cvValue_eq]
  exact SmValue.mk (hw.p0) (hw.p1) (⟨by (try dsimp only); unfold wts at hb; omega, fun y hy => by (try dsimp only at hy); have := sum_le_of_mem ByteArray.size hy; unfold wts szs at hb; omega⟩) (by (try dsimp only); rw [cvValueS_map, List.length_map]; omega) (fun z hz => by
      (try dsimp only at hz)
      rw [cvValueS_map] at hz
      obtain ⟨y, hy, rfl⟩ := List.mem_map.1 hz
      exact ih y hy (hw.p3.2 y hy) (by have := sum_le_of_mem wtValue hy; rw [← wtValueS_sum] at this; omega))
theorem szValueS_of (xs : List S25) (hx : xs.length ≤ maxLen) (h : ∀ y ∈ xs, ∀ left : Int, 0 ≤ left → left ≤ 1048576 → Ev (fun k => laws_szValue.f k (y.f0) (y.f1) (y.f2) (y.f3) left) (cut (wtValue y) left)) (left : Int) (h0 : 0 ≤ left) (hl : left ≤ 1048576) : Ev (fun k => laws_szValueS.f k xs left) (cut (xs.length + wtValueS xs) left) := by
  refine Ev.up ?_
  simp only [laws_szValueS.f]
  have hs := cut_sub (n := xs.length) h0 hl hx
  by_cases hc : cut xs.length left < 0
  · exact Ev.pos (hs.1.2 hc) (Ev.const (cut_add' hc).symm)
  · refine Ev.neg (fun h => hc (hs.1.1 h)) ?_
    rw [hs.2 (by omega)]
    have hl2 := cut_le (n := xs.length) h0
    have hw := sz_loop xs.length (fun k i left => laws_szValue.f k ((rd_T25 xs (i : Int)).f0) ((rd_T25 xs (i : Int)).f1) ((rd_T25 xs (i : Int)).f2) ((rd_T25 xs (i : Int)).f3) left) (fun k left i => laws_szValueS.l0 k xs left (i : Int)) (fun i => wtValue (xs.getD i z25)) (fun k left i hi => by
      simp only [laws_szValueS.l0]
      rw [if_pos (by omega), if_pos (by omega), w1 hi hx]) (fun k left => by simp only [laws_szValueS.l0]; rw [if_neg (by omega)]) (fun i left hi h0 hl => h _ (mem_getD xs z25 i hi) left h0 hl) xs.length 0 _ (by omega) (show 0 ≤ cut xs.length left by omega) (by omega)
    refine Ev.eq hw ?_
    rw [cut_add (by omega), sumF_list wtValue z25 xs xs.length 0 (by omega), wtValueS_sum]
    rfl
theorem szValue_ev : ∀ x : S25, W25 x → ∀ left : Int, 0 ≤ left → left ≤ 1048576 → Ev (fun k => laws_szValue.f k (x.f0) (x.f1) (x.f2) (x.f3) left) (cut (wtValue x) left) := by
  refine indValueL fun x ih hw left h0 hl => ?_
  refine Ev.up ?_
  simp only [laws_szValue.f]
  rw [wtValue_eq]
  have hb0 : (0 : Int) ≤ left ∧ left ≤ 1048576 := ⟨h0, hl⟩
  refine Ev.bind (szStringS_ev x.f2 hw.p2 _ hb0.1 hb0.2) ?_
  by_cases hc0 : cut (wts x.f2) left < 0
  · refine Ev.pos hc0 (Ev.const ?_)
    have hn : cut (wts x.f2) left < 0 := hc0
    have hn : cut (wts x.f2 + (x.f3.length + wtValueS x.f3)) left < 0 := by rw [cut_add' hn]; omega
    have hv := cut_neg.1 hn; unfold cut; rw [if_neg hv]
  refine Ev.neg hc0 ?_
  have hb1 : (0 : Int) ≤ cut (wts x.f2) left ∧ cut (wts x.f2) left ≤ 1048576 := ⟨by omega, by have := cut_le (n := wts x.f2) h0; omega⟩
  refine Ev.bind (szValueS_of x.f3 hw.p3.1 (fun y hy => ih y hy (hw.p3.2 y hy)) _ hb1.1 hb1.2) ?_
  by_cases hc1 : cut ((x.f3.length + wtValueS x.f3)) (cut (wts x.f2) left) < 0
  · refine Ev.pos hc1 (Ev.const ?_)
    have hn : cut (wts x.f2 + (x.f3.length + wtValueS x.f3)) left < 0 := by rw [← cut_add (by omega)]; exact hc1
    have hv := cut_neg.1 hn; unfold cut; rw [if_neg hv]
  refine Ev.neg hc1 ?_
  rw [cut_add (by omega)] at hc1 ⊢
  have hb2 : (0 : Int) ≤ cut (wts x.f2 + (x.f3.length + wtValueS x.f3)) left ∧ cut (wts x.f2 + (x.f3.length + wtValueS x.f3)) left ≤ 1048576 := ⟨by omega, by have := cut_le (n := wts x.f2 + (x.f3.length + wtValueS x.f3)) h0; omega⟩
  exact Ev.const rfl
theorem toValueS_of (xs : List S25) (hx : xs.length ≤ 1048576) (h : ∀ y ∈ xs, Ev (fun k => laws_toValue.f k (y.f0) (y.f1) (y.f2) (y.f3)) ((cvValue y).f0, (cvValue y).f1, (cvValue y).f2, (cvValue y).f3)) : Ev (fun k => laws_toValueS.f k xs) (cvValueS xs) := by
  refine Ev.up ?_
  simp only [laws_toValueS.f]
  refine Ev.pos (by omega) (Ev.pos (by omega) ?_)
  have hw := to_loop xs.length (fun k i => (laws_toValue.f k ((rd_T25 xs (i : Int)).f0) ((rd_T25 xs (i : Int)).f1) ((rd_T25 xs (i : Int)).f2) ((rd_T25 xs (i : Int)).f3)).map fun t => (⟨t.1, t.2.1, t.2.2.1, t.2.2.2⟩ : S30)) (fun k out i => laws_toValueS.l0 k xs out (i : Int)) (fun i => cvValue (xs.getD i z25)) (fun k out i hi hl => by
    simp only [laws_toValueS.l0]
    rw [if_pos (by omega), if_pos (by omega)]
    rcases laws_toValue.f k ((rd_T25 xs (i : Int)).f0) ((rd_T25 xs (i : Int)).f1) ((rd_T25 xs (i : Int)).f2) ((rd_T25 xs (i : Int)).f3) with _ | t
    · rfl
    · simp only [Option.map_some, Option.bind_some]
      rw [if_pos (by omega), w1' hi hx]
      rfl) (fun k out => by simp only [laws_toValueS.l0]; rw [if_neg (by omega)]) (fun i hi => Ev.eq (Ev.map (fun t => (⟨t.1, t.2.1, t.2.2.1, t.2.2.2⟩ : S30)) (h _ (mem_getD xs z25 i hi))) (etaValue _)) xs.length 0 (List.replicate ((xs.length : Int)).toNat z30) (by omega) (by simp)
  refine Ev.eq hw ?_
  rw [List.take_zero, List.nil_append, range_map_getElem cvValue z25 xs, cvValueS_map]
theorem toValue_ev : ∀ x : S25, wtValue x ≤ 1048576 → Ev (fun k => laws_toValue.f k (x.f0) (x.f1) (x.f2) (x.f3)) ((cvValue x).f0, (cvValue x).f1, (cvValue x).f2, (cvValue x).f3) := by
  refine indValueL fun x ih hw2 => ?_
  refine Ev.up ?_
  simp only [laws_toValue.f]
  have hb := hw2
  rw [wtValue_eq] at hb
  refine Ev.bind (toStringS_ev x.f2 (by unfold wts at hb; omega)) ?_
  refine Ev.bind (toValueS_of x.f3 (by omega) (fun y hy => ih y hy (by have := sum_le_of_mem wtValue hy; rw [← wtValueS_sum] at this; omega))) ?_
  exact Ev.const (by rw [cvValue_eq])
theorem eqValueS_of (xs : List S30) (hx : xs.length ≤ 1048576) (h : ∀ y ∈ xs, Ev (fun k => laws_eqValue.f k (y.f0) (y.f1) (y.f2) (y.f3) (y.f0) (y.f1) (y.f2) (y.f3)) true) : Ev (fun k => laws_eqValueS.f k xs xs) true := by
  refine Ev.up ?_
  simp only [laws_eqValueS.f]
  refine Ev.pos (by simp) ?_
  exact eq_loop xs.length (fun k i => laws_eqValue.f k ((rd_T30 xs (i : Int)).f0) ((rd_T30 xs (i : Int)).f1) ((rd_T30 xs (i : Int)).f2) ((rd_T30 xs (i : Int)).f3) ((rd_T30 xs (i : Int)).f0) ((rd_T30 xs (i : Int)).f1) ((rd_T30 xs (i : Int)).f2) ((rd_T30 xs (i : Int)).f3)) (fun k i => laws_eqValueS.l0 k xs xs (i : Int)) (fun k i hi => by
    simp only [laws_eqValueS.l0]
    rw [if_pos (by omega), if_pos (by omega), if_pos (by omega), w1' hi hx]) (fun k => by simp only [laws_eqValueS.l0]; rw [if_neg (by omega)]) (fun i hi => h _ (mem_getD xs z30 i hi)) xs.length 0 (by omega)
theorem eqValue_ev : ∀ x : S30, SmValue x → Ev (fun k => laws_eqValue.f k (x.f0) (x.f1) (x.f2) (x.f3) (x.f0) (x.f1) (x.f2) (x.f3)) true := by
  refine indValueI fun x ih hs => ?_
  refine Ev.up ?_
  simp only [laws_eqValue.f]
  refine Ev.pos (by simp) ?_
  refine Ev.pos (by simp) ?_
  refine Ev.bind (eqStringS_ev x.f2 hs.p2.1) (Ev.pos (by simp) ?_)
  refine Ev.bind (eqValueS_of x.f3 hs.p3.1 (fun y hy => ih y hy (hs.p3.2 y hy))) (Ev.pos (by simp) ?_)
  exact Ev.now _
end Go.Proofs.Ytonimhfahjediaa.Pk
end
section
namespace Go.Proofs.Ytonimhfahjediaa.Pk
open Go.RowKit Go.Proofs.YtonimhfahjediaaW.PrintWords Go.Proofs.YtonimhfahjediaaW.PrintLast Go.Proofs.Ytonimhfahjediaa.Pl Go.Proofs.Ytonimhfahjediaa.Ext
set_option linter.unusedVariables false
set_option linter.unusedSimpArgs false
def cmpI (a b : Int) : Int := if a < b then -1 else if a > b then 1 else 0
theorem cmp_Compare_int_eq (a b : Int) : cmp_Compare_int.f a b = some (cmpI a b) := by
  unfold cmp_Compare_int.f cmp_isNaN_int.f cmpI
  simp only [bne_self_eq_false, Option.bind_some, Bool.false_eq_true, if_false]
  split
  · rfl
  · split <;> rfl
theorem spec_l5Number_eq (a b : Int) : spec_l5Number.f a b = some (cmpI a b) := by
  unfold spec_l5Number.f cmpI
  simp only [spec_l1Bit_eq, Option.bind_some, decide_eq_true_eq]
  by_cases h1 : a > b <;> by_cases h2 : a < b <;> simp only [h1, h2, if_true, if_false] <;> first | omega | (simp [wrap64])
theorem cmpI_eq (a : Int) : cmpI a a = 0 := by unfold cmpI; rw [if_neg (by omega), if_neg (by omega)]
theorem cmpI_ne {a b : Int} (h : ¬ a = b) : ¬ cmpI a b = 0 := by
  unfold cmpI
  split
  · omega
  · split <;> omega
theorem bytesLess_self (a : List UInt8) : Op.bytesLess a a = false := by
  induction a with
  | nil => rfl
  | cons x a ih => simp [Op.bytesLess, ih]
/-- Two strings compared, as_ a number. -/
def cmpS (a b : ByteArray) : Int := if Op.bytesLess a.toList b.toList = true then -1 else if Op.bytesLess b.toList a.toList = true then 1 else 0
theorem cmp_Compare_string_eq (a b : ByteArray) : cmp_Compare_string.f a b = some (cmpS a b) := by
  unfold cmp_Compare_string.f cmp_isNaN_string.f cmpS
  simp only [bne_self_eq_false, Option.bind_some, Bool.false_eq_true, if_false]
  split
  · rfl
  · split <;> rfl
theorem cmpS_eq {a b : ByteArray} (h : a.toList = b.toList) : cmpS a b = 0 := by unfold cmpS; rw [h, bytesLess_self]; rfl
theorem cmpS_ne {a b : ByteArray} (h : ¬ a.toList = b.toList) : ¬ cmpS a b = 0 ∧ wrap64 ((if Op.bytesLess b.toList a.toList = true then 1 else 0) - (if Op.bytesLess a.toList b.toList = true then 1 else 0)) = cmpS a b := by
  have e := Go.Proofs.Ytonimhfahjediaa.Ext.bytesLess_swap a.toList b.toList
  unfold cmpS
  rw [e, show (a.toList == b.toList) = false from by simpa using h]
  cases Op.bytesLess a.toList b.toList <;> exact ⟨by decide, by simp [wrap64]⟩
theorem Labels_same (xs ys : List ByteArray) (hx : xs.length ≤ 1048576) (hy : ys.length ≤ 1048576) : Same (fun k => spec_l5Labels.f k xs ys) (fun k => slices_Compare_string_string.f k xs ys) := by
  simp only [spec_l5Labels.f, slices_Compare_string_string.f]
  refine Same.loopI xs.length (fun i (_ : Unit) => i ≤ ys.length) (fun k _ i => spec_l5Labels.l0 k xs ys (i : Int)) (fun k _ i => slices_Compare_string_string.l0 k xs ys xs (xs.length : Int) (i : Int)) (fun _ hI => ?_) (fun i _ hi hI ih => ?_) () (by omega)
  · refine Same.up ?_
    simp only [spec_l5Labels.l0, slices_Compare_string_string.l0]
    refine Same.neg (by omega) (by omega) (Same.upL ?_)
    simp only [spec_l5Labels.j1, spec_l5Number_eq, Option.bind_some]
    refine Same.negL (by decide) ?_
    refine Same.casesR (fun h => Same.ret ?_) (fun h => Same.ret ?_)
    · unfold cmpI; rw [if_pos h]
    · unfold cmpI; rw [if_neg h, if_neg (by omega)]
  · refine Same.up ?_
    simp only [spec_l5Labels.l0, slices_Compare_string_string.l0, cmp_Compare_string_eq, Option.bind_some, w1' hi hx]
    refine Same.pos (by omega) (by omega) (Same.upL (Same.posR (by omega) (Same.posR (by omega) ?_)))
    simp only [spec_l5Labels.j1, spec_l5Number_eq, Option.bind_some, spec_l1Bit_eq]
    by_cases hj : i < ys.length
    · refine Same.posL (by simpa using hj) (Same.posL (by omega) (Same.posL (by omega) (Same.posL (by omega) (Same.negR (by omega) (Same.posR (by omega) ?_)))))
      refine Same.casesL (fun hc => Same.posR (cmpS_eq hc) ?_) (fun hc => Same.negR (cmpS_ne hc).1 (Same.ret (cmpS_ne hc).2))
      rw [w1' hi hx]
      exact ih () (by omega)
    · refine Same.negL (by simpa using hj) (Same.posR (by omega) (Same.ret ?_))
      unfold cmpI
      rw [if_neg (by omega), if_pos (by omega)]
theorem cmp_Or_int_ev (a b c d : Int) : Ev (fun k => cmp_Or_int.f k [a, b, c, d]) (if a = 0 then if b = 0 then if c = 0 then d else c else b else a) := by
  have e1 : wrap64 (0 + 1) = 1 := by simp [wrap64]
  have e2 : wrap64 (1 + 1) = 2 := by simp [wrap64]
  have e3 : wrap64 (2 + 1) = 3 := by simp [wrap64]
  have e4 : wrap64 (3 + 1) = 4 := by simp [wrap64]
  have r0 : rd [a, b, c, d] 0 = a := rfl
  have r1 : rd [a, b, c, d] 1 = b := rfl
  have r2 : rd [a, b, c, d] 2 = c := rfl
  have r3 : rd [a, b, c, d] 3 = d := rfl
  simp only [cmp_Or_int.f]
  refine Ev.up ?_
  simp only [cmp_Or_int.l0, r0, e1]
  refine Ev.pos (by simp) (Ev.pos (by decide) (Ev.pos (by simp) ?_))
  refine Ev.cases (fun h => ?_) (fun h => by rw [if_neg h]; exact Ev.now _)
  rw [if_pos h]
  refine Ev.up ?_
  simp only [cmp_Or_int.l0, r1, e2]
  refine Ev.pos (by simp) (Ev.pos (by decide) (Ev.pos (by simp) ?_))
  refine Ev.cases (fun h => ?_) (fun h => by rw [if_neg h]; exact Ev.now _)
  rw [if_pos h]
  refine Ev.up ?_
  simp only [cmp_Or_int.l0, r2, e3]
  refine Ev.pos (by simp) (Ev.pos (by decide) (Ev.pos (by simp) ?_))
  refine Ev.cases (fun h => ?_) (fun h => by rw [if_neg h]; exact Ev.now _)
  rw [if_pos h]
  refine Ev.up ?_
  simp only [cmp_Or_int.l0, r3, e4]
  refine Ev.pos (by simp) (Ev.pos (by decide) (Ev.pos (by simp) ?_))
  refine Ev.cases (fun h => ?_) (fun h => Ev.now _)
  refine Ev.up ?_
  simp only [cmp_Or_int.l0]
  exact Ev.neg (by simp) (Ev.const h.symm)
theorem CompareValues_same_ : ∀ x : S30, ∀ y : S30, SmValue x → SmValue y → Same (fun k => spec_CompareValues.f k x.f0 x.f1 x.f2 x.f3 y.f0 y.f1 y.f2 y.f3) (fun k => impl_CompareValues.f k x.f0 x.f1 x.f2 x.f3 y.f0 y.f1 y.f2 y.f3) := by
  refine indValueI fun x ih y hs ht => ?_
  have out : ∀ n : Int, ¬ n = 0 → Ev (fun k => impl_CompareValues.l0 k n 0 x.f0 x.f1 x.f2 x.f3 y.f0 y.f1 y.f2 y.f3) n := by
    intro n hn
    refine Ev.up ?_
    simp only [impl_CompareValues.l0]
    exact Ev.neg hn (Ev.now _)
  refine Same.up ?_
  simp only [spec_CompareValues.f, impl_CompareValues.f, cmp_Compare_int_eq, spec_l5Number_eq, Option.bind_some]
  obtain ⟨t, h1, h2⟩ := Labels_same x.f2 y.f2 hs.p2.1 ht.p2.1
  refine Same.bindR h2 (Same.bindR (cmp_Or_int_ev _ _ _ _) ?_)
  refine Same.casesL (fun e0 => ?_) (fun e0 => ?_)
  · rw [if_pos (by rw [e0]; exact cmpI_eq _)]
    refine Same.casesL (fun e1 => ?_) (fun e1 => ?_)
    · rw [if_pos (by rw [e1]; exact cmpI_eq _)]
      refine Same.casesL (fun e2 => ?_) (fun e2 => ?_)
      · rw [if_pos (by rw [e2]; exact cmpI_eq _)]
        refine Same.bindL h1 ?_
        refine Same.loop x.f3.length (fun k (s : Int) i => spec_CompareValues.l0 k s (i : Int) x.f0 x.f1 x.f2 x.f3 y.f0 y.f1 y.f2 y.f3) (fun k s i => impl_CompareValues.l0 k s (i : Int) x.f0 x.f1 x.f2 x.f3 y.f0 y.f1 y.f2 y.f3) (fun s => ?_) (fun i s hi ihl => ?_) t
        · refine Same.up ?_
          simp only [spec_CompareValues.l0, impl_CompareValues.l0]
          refine Same.negL (by omega) ?_
          exact Same.casesR (fun _ => Same.negR (by omega) (Same.ret rfl)) (fun _ => Same.ret rfl)
        · refine Same.up ?_
          simp only [spec_CompareValues.l0, impl_CompareValues.l0, w1' hi hs.p3.1]
          refine Same.posL (by omega) ?_
          refine Same.ite Iff.rfl (fun h0 => ?_) (fun _ => Same.ret rfl)
          refine Same.posR (by omega) (Same.pos (by omega) (by omega) (Same.pos (by omega) (by omega) ?_))
          exact Same.bind (ih (x.f3.getD i z30) (mem_getD x.f3 z30 i hi) (y.f3.getD i z30) (hs.p3.2 _ (mem_getD x.f3 z30 i hi)) (ht.p3.2 _ (mem_getD y.f3 z30 i (by omega)))) (fun t _ _ => ihl t)
      · rw [if_neg (cmpI_ne e2)]
        exact ⟨_, Ev.now _, out _ (cmpI_ne e2)⟩
    · rw [if_neg (cmpI_ne e1)]
      exact ⟨_, Ev.now _, out _ (cmpI_ne e1)⟩
  · rw [if_neg (cmpI_ne e0)]
    exact ⟨_, Ev.now _, out _ (cmpI_ne e0)⟩
end Go.Proofs.Ytonimhfahjediaa.Pk
end
section
namespace Go.Proofs.Ytonimhfahjediaa.St
set_option linter.unusedVariables false
section
variable {α : Type} (lt : α → α → Bool) (z : α)
/-- Ascending: none is greater than what follows. -/
def Asc (xs : List α) : Prop := xs.Pairwise (fun x y => lt y x = false)
structure Ord : Prop where
  asymm : ∀ x y, lt x y = true → lt y x = false
  trans : ∀ x y w, lt y x = false → lt w y = false → lt w x = false
def swp (xs : List α) (i j : Nat) : List α := (xs.set i (xs.getD j z)).set j (xs.getD i z)
theorem getD_at (P : List α) (x : α) (Q : List α) : (P ++ x :: Q).getD P.length z = x := by simp [List.getD_eq_getElem?_getD]
theorem swp_at (P : List α) (x : α) (M : List α) (y : α) (Q : List α) {i j : Nat} (hi : i = P.length) (hj : j = P.length + 1 + M.length) : swp z (P ++ x :: M ++ y :: Q) i j = P ++ y :: M ++ x :: Q := by
  subst hi hj
  have h1 : (P ++ x :: M ++ y :: Q).getD P.length z = x := by rw [List.append_assoc]; exact getD_at z P x (M ++ y :: Q)
  have h2 : (P ++ x :: M ++ y :: Q).getD (P.length + 1 + M.length) z = y := by
    have := getD_at z (P ++ x :: M) y Q
    rwa [show (P ++ x :: M).length = P.length + 1 + M.length by simp; omega] at this
  unfold swp
  rw [h1, h2]
  have e1 : (P ++ x :: M ++ y :: Q).set P.length y = P ++ y :: M ++ y :: Q := by simp
  rw [e1, show P.length + 1 + M.length = (P ++ y :: M).length by simp; omega]
  simp
theorem swp_at' (P : List α) (x y : α) (Q : List α) {i j : Nat} (hi : i = P.length + 1) (hj : j = P.length) : swp z (P ++ x :: y :: Q) i j = P ++ y :: x :: Q := by
  subst hi hj
  have h1 : (P ++ x :: y :: Q).getD P.length z = x := getD_at z P x (y :: Q)
  have h2 : (P ++ x :: y :: Q).getD (P.length + 1) z = y := by
    have := getD_at z (P ++ [x]) y Q
    simp at this ⊢
  unfold swp
  rw [h1, h2]
  simp
/-! ### insertion -/
def insIn (a : Nat) : Nat → List α → List α
  | 0, xs => xs
  | j + 1, xs => if a < j + 1 ∧ lt (xs.getD (j + 1) z) (xs.getD j z) = true then insIn a j (swp z xs (j + 1) j) else xs
def insOut (a : Nat) : Nat → Nat → List α → List α
  | 0, _, xs => xs
  | d + 1, i, xs => insOut a d (i + 1) (insIn lt z a i xs)
def insSort (a b : Nat) (xs : List α) : List α := insOut lt z a (b - (a + 1)) (a + 1) xs
theorem asc_last {lt : α → α → Bool} (o : Ord lt) {S : List α} {y : α} (h : Asc lt (S ++ [y])) : Asc lt S ∧ ∀ x ∈ S, lt y x = false := by
  rw [Asc, List.pairwise_append] at h
  exact ⟨h.1, fun x hx => h.2.2 x hx y (by simp)⟩
theorem insIn_ok (o : Ord lt) (P : List α) : ∀ (n : Nat) (S : List α), S.length = n → Asc lt S → ∀ (x : α) (Q : List α), ∃ T, insIn lt z P.length (P.length + n) (P ++ S ++ x :: Q) = P ++ T ++ Q ∧ List.Perm T (S ++ [x]) ∧ Asc lt T
  | 0, S, hn, hS, x, Q => by
    obtain rfl := List.length_eq_zero_iff.1 hn
    refine ⟨[x], ?_, List.Perm.refl _, by simp [Asc]⟩
    cases hp : P.length with
    | zero => simp [insIn]
    | succ m =>
      simp only [Nat.add_zero]
      rw [insIn, if_neg (by omega)]
      simp
  | n + 1, S, hn, hS, x, Q => by
    obtain ⟨S', y, rfl⟩ : ∃ S' y, S = S' ++ [y] := ⟨S.dropLast, S.getLast (by intro h; simp [h] at hn), (List.dropLast_concat_getLast _).symm⟩
    have hn' : S'.length = n := by simpa using hn
    obtain ⟨h1, h2⟩ := asc_last o hS
    have e0 : P ++ (S' ++ [y]) ++ x :: Q = (P ++ S') ++ y :: x :: Q := by simp
    have hl : (P ++ S').length = P.length + n := by simp [hn']
    have g1 : (P ++ (S' ++ [y]) ++ x :: Q).getD (P.length + n) z = y := by rw [e0, ← hl]; exact getD_at z _ y _
    have g2 : (P ++ (S' ++ [y]) ++ x :: Q).getD (P.length + n + 1) z = x := by
      rw [e0, ← hl, show P ++ S' ++ y :: x :: Q = (P ++ S' ++ [y]) ++ x :: Q by simp, show (P ++ S').length + 1 = (P ++ S' ++ [y]).length by simp; omega]
      exact getD_at z _ x Q
    rw [show P.length + (n + 1) = P.length + n + 1 from rfl, insIn, g1, g2]
    by_cases hc : lt x y = true
    · rw [if_pos ⟨by omega, hc⟩, e0, swp_at' z (P ++ S') y x Q (by omega) (by omega), show P ++ S' ++ x :: y :: Q = P ++ S' ++ x :: (y :: Q) from rfl]
      obtain ⟨T, t1, t2, t3⟩ := insIn_ok o P n S' hn' h1 x (y :: Q)
      refine ⟨T ++ [y], by rw [t1]; simp, ?_, ?_⟩
      · refine (List.Perm.append_right [y] t2).trans ?_
        rw [List.append_assoc, List.append_assoc]
        exact List.Perm.append_left S' (List.Perm.swap y x [])
      · rw [Asc, List.pairwise_append]
        refine ⟨t3, by simp, fun u hu v hv => ?_⟩
        obtain rfl := List.mem_singleton.1 hv
        rcases List.mem_append.1 (t2.mem_iff.1 hu) with hu | hu
        · exact h2 u hu
        · obtain rfl := List.mem_singleton.1 hu
          exact o.asymm _ _ hc
    · have hc' : lt x y = false := by simpa using hc
      rw [if_neg (fun h => hc h.2)]
      refine ⟨S' ++ [y] ++ [x], by simp, List.Perm.refl _, ?_⟩
      rw [Asc, List.pairwise_append]
      refine ⟨hS, by simp, fun u hu v hv => ?_⟩
      obtain rfl := List.mem_singleton.1 hv
      rcases List.mem_append.1 hu with hu | hu
      · exact o.trans _ _ _ (h2 u hu) hc'
      · obtain rfl := List.mem_singleton.1 hu
        exact hc'
theorem insOut_ok (o : Ord lt) (P : List α) : ∀ (B S Q : List α), Asc lt S → ∃ T, insOut lt z P.length B.length (P.length + S.length) (P ++ S ++ B ++ Q) = P ++ T ++ Q ∧ List.Perm T (S ++ B) ∧ Asc lt T
  | [], S, Q, hS => ⟨S, by simp [insOut], by simp, hS⟩
  | x :: B, S, Q, hS => by
    obtain ⟨T, t1, t2, t3⟩ := insIn_ok lt z o P S.length S rfl hS x (B ++ Q)
    have e : P ++ S ++ x :: B ++ Q = P ++ S ++ x :: (B ++ Q) := by simp
    have hT : T.length = S.length + 1 := by simpa using t2.length_eq
    rw [List.length_cons, insOut, e, t1]
    obtain ⟨V, v1, v2, v3⟩ := insOut_ok o P B T Q t3
    refine ⟨V, ?_, ?_, v3⟩
    · rw [← v1, hT, List.append_assoc (P ++ T), Nat.add_assoc]
    · refine v2.trans ((List.Perm.append_right B t2).trans ?_)
      simp
theorem insSort_ok (o : Ord lt) (P A Q : List α) {a b : Nat} (ha : a = P.length) (hb : b = P.length + A.length) : ∃ T, insSort lt z a b (P ++ A ++ Q) = P ++ T ++ Q ∧ List.Perm T A ∧ Asc lt T := by
  subst ha hb
  unfold insSort
  cases A with
  | nil => exact ⟨[], by simp [insOut], List.Perm.refl _, by simp [Asc]⟩
  | cons x B =>
    obtain ⟨T, t1, t2, t3⟩ := insOut_ok lt z o P B [x] Q (by simp [Asc])
    refine ⟨T, ?_, by simpa using t2, t3⟩
    rw [← t1]
    congr 1
    · simp; omega
    · simp
/-! ### a search by halves -/
def bs (p : Nat → Bool) : Nat → Nat → Nat → Nat
  | 0, i, _ => i
  | f + 1, i, j => if i < j then (if p ((i + j) / 2) = true then bs p f ((i + j) / 2 + 1) j else bs p f i ((i + j) / 2)) else i
theorem bs_ok (p : Nat → Bool) : ∀ (f i j : Nat), i ≤ j → j - i ≤ f → i ≤ bs p f i j ∧ bs p f i j ≤ j ∧ (bs p f i j = i ∨ p (bs p f i j - 1) = true) ∧ (bs p f i j = j ∨ p (bs p f i j) = false)
  | 0, i, j, h, hf => by
    have : i = j := by omega
    subst this
    simp [bs]
  | f + 1, i, j, h, hf => by
    rw [bs]
    by_cases hij : i < j
    · rw [if_pos hij]
      by_cases hp : p ((i + j) / 2) = true
      · rw [if_pos hp]
        obtain ⟨h1, h2, h3, h4⟩ := bs_ok p f ((i + j) / 2 + 1) j (by omega) (by omega)
        refine ⟨by omega, h2, ?_, h4⟩
        rcases h3 with h3 | h3
        · right
          rw [h3]
          simpa using hp
        · exact .inr h3
      · rw [if_neg hp]
        obtain ⟨h1, h2, h3, h4⟩ := bs_ok p f i ((i + j) / 2) (by omega) (by omega)
        refine ⟨h1, by omega, h3, ?_⟩
        rcases h4 with h4 | h4
        · right
          rw [h4]
          simpa using hp
        · exact .inr h4
    · rw [if_neg hij]
      have : i = j := by omega
      subst this
      simp
/-! ### moves -/
def mvUp : Nat → Nat → List α → List α
  | 0, _, xs => xs
  | d + 1, k, xs => mvUp d (k + 1) (swp z xs k (k + 1))
def mvDn : Nat → Nat → List α → List α
  | 0, _, xs => xs
  | d + 1, k, xs => mvDn d (k - 1) (swp z xs k (k - 1))
theorem mvUp_ok : ∀ (B P : List α) (x : α) (Q : List α), mvUp z B.length P.length (P ++ x :: B ++ Q) = P ++ B ++ x :: Q
  | [], P, x, Q => by simp [mvUp]
  | y :: B, P, x, Q => by
    rw [List.length_cons, mvUp, show P ++ x :: y :: B ++ Q = P ++ x :: [] ++ y :: (B ++ Q) by simp, swp_at z P x [] y (B ++ Q) rfl (by simp)]
    have := mvUp_ok B (P ++ [y]) x Q
    simp only [List.length_append, List.length_singleton] at this
    rw [show P ++ y :: [] ++ x :: (B ++ Q) = P ++ [y] ++ x :: B ++ Q by simp, this]
    simp
theorem mvDn_ok : ∀ (n : Nat) (A : List α), A.length = n → ∀ (P : List α) (x : α) (Q : List α), mvDn z n (P.length + n) (P ++ A ++ x :: Q) = P ++ x :: A ++ Q
  | 0, A, hA, P, x, Q => by
    obtain rfl := List.length_eq_zero_iff.1 hA
    simp [mvDn]
  | n + 1, A, hA, P, x, Q => by
    obtain ⟨A', y, rfl⟩ : ∃ A' y, A = A' ++ [y] := ⟨A.dropLast, A.getLast (by intro h; simp [h] at hA), (List.dropLast_concat_getLast _).symm⟩
    have hn : A'.length = n := by simpa using hA
    rw [mvDn, show P ++ (A' ++ [y]) ++ x :: Q = (P ++ A') ++ y :: x :: Q by simp, swp_at' z (P ++ A') y x Q (by simp; omega) (by simp; omega)]
    rw [show P.length + (n + 1) - 1 = P.length + n by omega, show P ++ A' ++ x :: y :: Q = P ++ A' ++ x :: (y :: Q) from rfl, mvDn_ok n A' hn P x (y :: Q)]
    simp
def swR (a b : Nat) : Nat → Nat → List α → List α
  | 0, _, xs => xs
  | d + 1, i, xs => swR a b d (i + 1) (swp z xs (a + i) (b + i))
theorem swR_go : ∀ (U V U0 V0 P M Q : List α), U.length = V.length → U0.length = V0.length → swR z P.length (P.length + V0.length + U.length + M.length) U.length U0.length (P ++ V0 ++ U ++ M ++ U0 ++ V ++ Q) = P ++ V0 ++ V ++ M ++ U0 ++ U ++ Q
  | [], V, U0, V0, P, M, Q, h, h0 => by
    obtain rfl := List.length_eq_zero_iff.1 h.symm
    simp [swR]
  | u :: U, [], U0, V0, P, M, Q, h, h0 => by simp at h
  | u :: U, v :: V, U0, V0, P, M, Q, h, h0 => by
    have h' : U.length = V.length := by simpa using h
    rw [List.length_cons, swR]
    have e : P ++ V0 ++ u :: U ++ M ++ U0 ++ v :: V ++ Q = (P ++ V0) ++ u :: (U ++ M ++ U0) ++ v :: (V ++ Q) := by simp
    rw [e, swp_at z (P ++ V0) u (U ++ M ++ U0) v (V ++ Q) (by simp; omega) (by simp; omega)]
    have := swR_go U V (U0 ++ [u]) (V0 ++ [v]) P M Q h' (by simp [h0])
    rw [show P ++ V0 ++ v :: (U ++ M ++ U0) ++ u :: (V ++ Q) = P ++ (V0 ++ [v]) ++ U ++ M ++ (U0 ++ [u]) ++ V ++ Q by simp]
    rw [show U0.length + 1 = (U0 ++ [u]).length by simp, show P.length + V0.length + (U.length + 1) + M.length = P.length + (V0 ++ [v]).length + U.length + M.length by simp; omega, this]
    simp
theorem swR_ok (U V P M Q : List α) (h : U.length = V.length) {a b n : Nat} (ha : a = P.length) (hb : b = P.length + U.length + M.length) (hn : n = U.length) : swR z a b n 0 (P ++ U ++ M ++ V ++ Q) = P ++ V ++ M ++ U ++ Q := by
  subst ha hb hn
  have := swR_go z U V [] [] P M Q h rfl
  simpa using this
def rot (m : Nat) : Nat → Nat → Nat → List α → List α
  | 0, _, _, xs => xs
  | f + 1, i, j, xs => if i = j then swR z (m - i) m i 0 xs else if i > j then rot m f (i - j) j (swR z (m - i) m j 0 xs) else rot m f i (j - i) (swR z (m - i) (m + j - i) i 0 xs)
theorem rot_ok : ∀ (f : Nat) (U V P Q : List α), 0 < U.length → 0 < V.length → U.length + V.length ≤ f → rot z (P.length + U.length) f U.length V.length (P ++ U ++ V ++ Q) = P ++ V ++ U ++ Q
  | 0, U, V, P, Q, hu, hv, hf => by omega
  | f + 1, U, V, P, Q, hu, hv, hf => by
    rw [rot]
    by_cases h1 : U.length = V.length
    · rw [if_pos h1]
      have := swR_ok z U V P [] Q h1 (a := P.length + U.length - U.length) (b := P.length + U.length) (n := U.length) (by omega) (by simp) rfl
      simpa using this
    · rw [if_neg h1]
      by_cases h2 : U.length > V.length
      · rw [if_pos h2]
        obtain ⟨U1, U2, rfl, hl⟩ : ∃ U1 U2, U = U1 ++ U2 ∧ U1.length = V.length := ⟨U.take V.length, U.drop V.length, (List.take_append_drop _ _).symm, by simp; omega⟩
        have hs := swR_ok z U1 V P U2 Q hl (a := P.length + (U1 ++ U2).length - (U1 ++ U2).length) (b := P.length + (U1 ++ U2).length) (n := V.length) (by omega) (by simp; omega) hl.symm
        rw [show P ++ (U1 ++ U2) ++ V ++ Q = P ++ U1 ++ U2 ++ V ++ Q by simp, hs]
        have ih := rot_ok f U2 U1 (P ++ V) Q (by simp at h2; omega) (by omega) (by simp at hf h2; omega)
        rw [show P.length + (U1 ++ U2).length = (P ++ V).length + U2.length by simp; omega, show (U1 ++ U2).length - V.length = U2.length by simp; omega, ← hl]
        rw [show P ++ V ++ U2 ++ U1 ++ Q = (P ++ V) ++ U2 ++ U1 ++ Q by simp, ih]
        simp
      · rw [if_neg h2]
        obtain ⟨V1, V2, rfl, hl⟩ : ∃ V1 V2, V = V1 ++ V2 ∧ V2.length = U.length := ⟨V.take (V.length - U.length), V.drop (V.length - U.length), (List.take_append_drop _ _).symm, by simp; omega⟩
        have hs := swR_ok z U V2 P V1 Q hl.symm (a := P.length + U.length - U.length) (b := P.length + U.length + (V1 ++ V2).length - U.length) (n := U.length) (by omega) (by simp; omega) rfl
        rw [show P ++ U ++ (V1 ++ V2) ++ Q = P ++ U ++ V1 ++ V2 ++ Q by simp, hs]
        have ih := rot_ok f V2 V1 P (U ++ Q) (by omega) (by simp at h1 h2; omega) (by simp at hf; omega)
        rw [show (V1 ++ V2).length - U.length = V1.length by simp; omega, ← hl]
        rw [show P ++ V2 ++ V1 ++ U ++ Q = P ++ V2 ++ V1 ++ (U ++ Q) by simp, ih]
        simp
/-! ### the merge -/
def symM : Nat → Nat → Nat → Nat → List α → List α
  | 0, _, _, _, xs => xs
  | f + 1, a, m, b, xs =>
    if m - a = 1 then mvUp z (bs (fun h => lt (xs.getD h z) (xs.getD a z)) (b - m) m b - 1 - a) a xs
    else if b - m = 1 then mvDn z (m - bs (fun h => !(lt (xs.getD m z) (xs.getD h z))) (m - a) a m) m xs
    else
      let mid := (a + b) / 2
      let s := bs (fun c => !(lt (xs.getD (mid + m - 1 - c) z) (xs.getD c z))) (b - a) (if m > mid then mid + m - b else a) (if m > mid then mid else m)
      let e := mid + m - s
      let ys := if s < m ∧ m < e then rot z m (e - s) (m - s) (e - m) xs else xs
      let zs := if a < s ∧ s < mid then symM f a s mid ys else ys
      if mid < e ∧ e < b then symM f mid e b zs else zs
theorem asc_app {lt : α → α → Bool} {A B : List α} : Asc lt (A ++ B) ↔ Asc lt A ∧ Asc lt B ∧ ∀ x ∈ A, ∀ y ∈ B, lt y x = false := by
  unfold Asc
  rw [List.pairwise_append]
theorem irr {lt : α → α → Bool} (o : Ord lt) (x : α) : lt x x = false := by
  cases h : lt x x with
  | false => rfl
  | true => exact (o.asymm x x h).symm.trans h |>.symm ▸ rfl
/-- all of an ascending row are at most its last, at least its first -/
theorem asc_le_last {lt : α → α → Bool} (o : Ord lt) {A : List α} {y : α} (h : Asc lt (A ++ [y])) : ∀ x ∈ A ++ [y], lt y x = false := by
  intro x hx
  rcases List.mem_append.1 hx with hx | hx
  · exact (asc_last o h).2 x hx
  · obtain rfl := List.mem_singleton.1 hx
    exact irr o x
theorem asc_ge_first {lt : α → α → Bool} (o : Ord lt) {A : List α} {y : α} (h : Asc lt (y :: A)) : ∀ x ∈ y :: A, lt x y = false := by
  intro x hx
  rcases List.mem_cons.1 hx with rfl | hx
  · exact irr o x
  · exact (List.pairwise_cons.1 h).1 x hx
/-- two ascending rows: the first's last is at most the second's first: so are all -/
theorem cross {lt : α → α → Bool} (o : Ord lt) {A B : List α} (hA : Asc lt A) (hB : Asc lt B) (h : ∀ A' x y B', A = A' ++ [x] → B = y :: B' → lt y x = false) : ∀ x ∈ A, ∀ y ∈ B, lt y x = false := by
  intro u hu v hv
  cases B with
  | nil => cases hv
  | cons y B' =>
    obtain ⟨A', x, rfl⟩ : ∃ A' x, A = A' ++ [x] := ⟨A.dropLast, A.getLast (by intro h; simp [h] at hu), (List.dropLast_concat_getLast _).symm⟩
    have h0 := h A' x y B' rfl rfl
    have h1 := asc_le_last o hA u hu
    have h2 := asc_ge_first o hB v hv
    exact o.trans u y v (o.trans u x y h1 h0) h2
theorem symM_ok (o : Ord lt) : ∀ (f : Nat) (A B P Q : List α), 0 < A.length → 0 < B.length → A.length + B.length ≤ f → Asc lt A → Asc lt B →
    ∃ T, symM lt z f P.length (P.length + A.length) (P.length + A.length + B.length) (P ++ A ++ B ++ Q) = P ++ T ++ Q ∧ List.Perm T (A ++ B) ∧ Asc lt T
  | 0, A, B, P, Q, ha, hb, hf, hA, hB => by omega
  | f + 1, A, B, P, Q, ha, hb, hf, hA, hB => by
    obtain ⟨xs, hx⟩ : ∃ xs, xs = P ++ A ++ B ++ Q := ⟨_, rfl⟩
    rw [← hx]
    -- elements by their places
    have gA : ∀ A1 x A2, A = A1 ++ x :: A2 → xs.getD (P.length + A1.length) z = x := by
      intro A1 x A2 e
      subst e
      rw [hx, show P ++ (A1 ++ x :: A2) ++ B ++ Q = (P ++ A1) ++ x :: (A2 ++ B ++ Q) by simp, show P.length + A1.length = (P ++ A1).length by simp]
      exact getD_at z _ x _
    have gB : ∀ B1 x B2, B = B1 ++ x :: B2 → xs.getD (P.length + A.length + B1.length) z = x := by
      intro B1 x B2 e
      subst e
      rw [hx, show P ++ A ++ (B1 ++ x :: B2) ++ Q = (P ++ A ++ B1) ++ x :: (B2 ++ Q) by simp, show P.length + A.length + B1.length = (P ++ A ++ B1).length by simp; omega]
      exact getD_at z _ x _
    rw [symM]
    by_cases c1 : P.length + A.length - P.length = 1
    · rw [if_pos c1]
      obtain ⟨x, rfl⟩ := List.length_eq_one_iff.1 (show A.length = 1 by omega)
      simp only [List.length_singleton] at *
      have hbs := bs_ok (fun h => lt (xs.getD h z) (xs.getD P.length z)) (P.length + 1 + B.length - (P.length + 1)) (P.length + 1) (P.length + 1 + B.length) (by omega) (by omega)
      have gx : xs.getD P.length z = x := by simpa using gA [] x [] rfl
      rw [gx] at hbs
      rw [gx]
      generalize bs (fun h => lt (xs.getD h z) x) (P.length + 1 + B.length - (P.length + 1)) (P.length + 1) (P.length + 1 + B.length) = r at hbs ⊢
      obtain ⟨h1, h2, h3, h4⟩ := hbs
      obtain ⟨B1, B2, rfl, hl⟩ : ∃ B1 B2, B = B1 ++ B2 ∧ B1.length = r - (P.length + 1) := ⟨B.take (r - (P.length + 1)), B.drop (r - (P.length + 1)), (List.take_append_drop _ _).symm, by simp; omega⟩
      have hsp := asc_app.1 hB
      refine ⟨B1 ++ x :: B2, ?_, ?_, ?_⟩
      · have := mvUp_ok z B1 P x (B2 ++ Q)
        rw [show r - 1 - P.length = B1.length by omega, hx, show P ++ [x] ++ (B1 ++ B2) ++ Q = P ++ x :: B1 ++ (B2 ++ Q) by simp, this]
        simp
      · simp
      · rw [asc_app]
        have q1 : ∀ u ∈ B1, lt x u = false := by
          intro u hu
          obtain ⟨B1', y, rfl⟩ : ∃ A' y, B1 = A' ++ [y] := ⟨B1.dropLast, B1.getLast (by intro h; simp [h] at hu), (List.dropLast_concat_getLast _).symm⟩
          have hy : lt y x = true := by
            rcases h3 with h3 | h3
            · simp at hl
              omega
            · have := gB B1' y B2 (by simp)
              rw [show P.length + 1 + B1'.length = r - 1 by simp at hl; omega] at this
              rwa [this] at h3
          exact o.trans u y x (asc_le_last o hsp.1 u hu) (o.asymm _ _ hy)
        have q2 : ∀ u ∈ B2, lt u x = false := by
          intro u hu
          cases B2 with
          | nil => cases hu
          | cons y B2' =>
            have hy : lt y x = false := by
              rcases h4 with h4 | h4
              · simp at hl h4
                omega
              · have := gB B1 y B2' rfl
                rw [show P.length + 1 + B1.length = r by omega] at this
                rwa [this] at h4
            exact o.trans x y u hy (asc_ge_first o hsp.2.1 u hu)
        refine ⟨hsp.1, List.pairwise_cons.2 ⟨q2, hsp.2.1⟩, ?_⟩
        intro u hu v hv
        rcases List.mem_cons.1 hv with rfl | hv
        · exact q1 u hu
        · exact hsp.2.2 u hu v hv
    rw [if_neg c1]
    by_cases c2 : P.length + A.length + B.length - (P.length + A.length) = 1
    · rw [if_pos c2]
      obtain ⟨x, rfl⟩ := List.length_eq_one_iff.1 (show B.length = 1 by omega)
      have hbs := bs_ok (fun h => !(lt (xs.getD (P.length + A.length) z) (xs.getD h z))) (P.length + A.length - P.length) P.length (P.length + A.length) (by omega) (by omega)
      have gx : xs.getD (P.length + A.length) z = x := by simpa using gB [] x [] rfl
      rw [gx] at hbs
      rw [gx]
      generalize bs (fun h => !(lt x (xs.getD h z))) (P.length + A.length - P.length) P.length (P.length + A.length) = r at hbs ⊢
      obtain ⟨h1, h2, h3, h4⟩ := hbs
      obtain ⟨A1, A2, rfl, hl⟩ : ∃ A1 A2, A = A1 ++ A2 ∧ A1.length = r - P.length := ⟨A.take (r - P.length), A.drop (r - P.length), (List.take_append_drop _ _).symm, by simp; omega⟩
      have hsp := asc_app.1 hA
      refine ⟨A1 ++ x :: A2, ?_, ?_, ?_⟩
      · have := mvDn_ok z A2.length A2 rfl (P ++ A1) x Q
        rw [show P.length + (A1 ++ A2).length - r = A2.length by simp at h2 ⊢; omega, hx, show P.length + (A1 ++ A2).length = (P ++ A1).length + A2.length by simp; omega, show P ++ (A1 ++ A2) ++ [x] ++ Q = P ++ A1 ++ A2 ++ x :: Q by simp, this]
        simp
      · rw [List.append_assoc]
        exact List.Perm.append_left A1 (by simpa using (List.perm_append_singleton x A2).symm)
      · rw [asc_app]
        have q1 : ∀ u ∈ A1, lt x u = false := by
          intro u hu
          obtain ⟨A1', y, rfl⟩ : ∃ A' y, A1 = A' ++ [y] := ⟨A1.dropLast, A1.getLast (by intro h; simp [h] at hu), (List.dropLast_concat_getLast _).symm⟩
          have hy : lt x y = false := by
            rcases h3 with h3 | h3
            · simp at hl
              omega
            · have := gA A1' y A2 (by simp)
              rw [show P.length + A1'.length = r - 1 by simp at hl; omega] at this
              rw [this] at h3
              simpa using h3
          exact o.trans u y x (asc_le_last o hsp.1 u hu) hy
        have q2 : ∀ u ∈ A2, lt u x = false := by
          intro u hu
          cases A2 with
          | nil => cases hu
          | cons y A2' =>
            have hy : lt x y = true := by
              rcases h4 with h4 | h4
              · simp at hl h4
                omega
              · have := gA A1 y A2' rfl
                rw [show P.length + A1.length = r by omega] at this
                rw [this] at h4
                simpa using h4
            exact o.trans x y u (o.asymm _ _ hy) (asc_ge_first o hsp.2.1 u hu)
        refine ⟨hsp.1, List.pairwise_cons.2 ⟨q2, hsp.2.1⟩, ?_⟩
        intro u hu v hv
        rcases List.mem_cons.1 hv with rfl | hv
        · exact q1 u hu
        · exact hsp.2.2 u hu v hv
    rw [if_neg c2]
    dsimp only
    obtain ⟨a, ea⟩ : ∃ a, a = P.length := ⟨_, rfl⟩
    obtain ⟨m, em⟩ : ∃ m, m = P.length + A.length := ⟨_, rfl⟩
    obtain ⟨b, eb⟩ : ∃ b, b = P.length + A.length + B.length := ⟨_, rfl⟩
    rw [← eb, ← em, ← ea]
    obtain ⟨mid, emid⟩ : ∃ mid, mid = (a + b) / 2 := ⟨_, rfl⟩
    rw [← emid]
    obtain ⟨s0, e0⟩ : ∃ s0, s0 = if m > mid then mid + m - b else a := ⟨_, rfl⟩
    obtain ⟨r0, er⟩ : ∃ r0, r0 = if m > mid then mid else m := ⟨_, rfl⟩
    rw [← e0, ← er]
    have k0 : (m > mid ∧ s0 = mid + m - b ∧ r0 = mid) ∨ (m ≤ mid ∧ s0 = a ∧ r0 = m) := by
      by_cases h : m > mid
      · rw [if_pos h] at e0 er; exact .inl ⟨h, e0, er⟩
      · rw [if_neg h] at e0 er; exact .inr ⟨by omega, e0, er⟩
    have hbs := bs_ok (fun c => !(lt (xs.getD (mid + m - 1 - c) z) (xs.getD c z))) (b - a) s0 r0 (by omega) (by omega)
    generalize bs (fun c => !(lt (xs.getD (mid + m - 1 - c) z) (xs.getD c z))) (b - a) s0 r0 = s at hbs ⊢
    obtain ⟨h1, h2, h3, h4⟩ := hbs
    obtain ⟨e, ee⟩ : ∃ e, e = mid + m - s := ⟨_, rfl⟩
    rw [← ee]
    have ks : a ≤ s ∧ s ≤ m ∧ m ≤ e ∧ e ≤ b := by omega
    obtain ⟨A1, A2, rfl, hl1⟩ : ∃ A1 A2, A = A1 ++ A2 ∧ A1.length = s - a := ⟨A.take (s - a), A.drop (s - a), (List.take_append_drop _ _).symm, by simp; omega⟩
    obtain ⟨B1, B2, rfl, hl2⟩ : ∃ B1 B2, B = B1 ++ B2 ∧ B1.length = e - m := ⟨B.take (e - m), B.drop (e - m), (List.take_append_drop _ _).symm, by simp; omega⟩
    have sA := asc_app.1 hA
    have sB := asc_app.1 hB
    have lA : (A1 ++ A2).length = A1.length + A2.length := List.length_append
    have lB : (B1 ++ B2).length = B1.length + B2.length := List.length_append
    rw [lA] at em eb ha hf c1 c2
    rw [lB] at eb hb hf c2
    rw [lA] at gB
    have X1 : ∀ u ∈ A1, ∀ v ∈ B2, lt v u = false := cross o sA.1 sB.2.1 (fun A' x y B' q1 q2 => by
      subst q1 q2
      simp only [List.length_append, List.length_cons, List.length_nil] at hl1 em eb
      have hp : (!(lt (xs.getD (mid + m - 1 - (s - 1)) z) (xs.getD (s - 1) z))) = true := by
        rcases h3 with h3 | h3
        · omega
        · exact h3
      have g1 := gA A' x A2 (by simp)
      have g2 := gB B1 y B' rfl
      rw [show P.length + A'.length = s - 1 by omega] at g1
      simp only [List.length_append, List.length_cons, List.length_nil] at g2
      rw [show P.length + (A'.length + (0 + 1) + A2.length) + B1.length = mid + m - 1 - (s - 1) by omega] at g2
      rw [g1, g2] at hp
      simpa using hp)
    have X2 : ∀ u ∈ B1, ∀ v ∈ A2, lt v u = false := cross o sB.1 sA.2.1 (fun B' x y A' q1 q2 => by
      subst q1 q2
      simp only [List.length_append, List.length_cons, List.length_nil] at hl2 em eb
      have hp : (!(lt (xs.getD (mid + m - 1 - s) z) (xs.getD s z))) = false := by
        rcases h4 with h4 | h4
        · omega
        · exact h4
      have g1 := gA A1 y A' rfl
      have g2 := gB B' x B2 (by simp)
      rw [show P.length + A1.length = s by omega] at g1
      simp only [List.length_cons] at g2
      rw [show P.length + (A1.length + (A'.length + 1)) + B'.length = mid + m - 1 - s by omega] at g2
      rw [g1, g2] at hp
      exact o.asymm _ _ (by simpa using hp))
    have XX : ∀ u ∈ A1 ++ B1, ∀ v ∈ A2 ++ B2, lt v u = false := by
      intro u hu v hv
      rcases List.mem_append.1 hu with hu | hu <;> rcases List.mem_append.1 hv with hv | hv
      · exact sA.2.2 u hu v hv
      · exact X1 u hu v hv
      · exact X2 u hu v hv
      · exact sB.2.2 u hu v hv
    have hys : (if s < m ∧ m < e then rot z m (e - s) (m - s) (e - m) xs else xs) = P ++ A1 ++ B1 ++ A2 ++ B2 ++ Q := by
      by_cases c : s < m ∧ m < e
      · rw [if_pos c]
        have := rot_ok z (e - s) A2 B1 (P ++ A1) (B2 ++ Q) (by omega) (by omega) (by omega)
        rw [show (P ++ A1).length + A2.length = m by simp; omega, show A2.length = m - s by omega, show B1.length = e - m by omega] at this
        rw [hx, show P ++ (A1 ++ A2) ++ (B1 ++ B2) ++ Q = P ++ A1 ++ A2 ++ B1 ++ (B2 ++ Q) by simp, this]
        simp
      · rw [if_neg c, hx]
        by_cases c' : s < m
        · obtain rfl := List.length_eq_zero_iff.1 (show B1.length = 0 by omega)
          simp
        · obtain rfl := List.length_eq_zero_iff.1 (show A2.length = 0 by omega)
          simp
    rw [hys]
    obtain ⟨T1, t1, t2, t3⟩ : ∃ T1, (if a < s ∧ s < mid then symM lt z f a s mid (P ++ A1 ++ B1 ++ A2 ++ B2 ++ Q) else (P ++ A1 ++ B1 ++ A2 ++ B2 ++ Q)) = P ++ T1 ++ A2 ++ B2 ++ Q ∧ List.Perm T1 (A1 ++ B1) ∧ Asc lt T1 := by
      by_cases c : a < s ∧ s < mid
      · rw [if_pos c]
        obtain ⟨T, q1, q2, q3⟩ := symM_ok o f A1 B1 P (A2 ++ B2 ++ Q) (by omega) (by omega) (by omega) sA.1 sB.1
        rw [← ea, show a + A1.length = s by omega, show s + B1.length = mid by omega] at q1
        exact ⟨T, by rw [show P ++ A1 ++ B1 ++ A2 ++ B2 ++ Q = P ++ A1 ++ B1 ++ (A2 ++ B2 ++ Q) by simp, q1]; simp, q2, q3⟩
      · rw [if_neg c]
        by_cases c' : a < s
        · obtain rfl := List.length_eq_zero_iff.1 (show B1.length = 0 by omega)
          exact ⟨A1, by simp, by simp, sA.1⟩
        · obtain rfl := List.length_eq_zero_iff.1 (show A1.length = 0 by omega)
          exact ⟨B1, by simp, by simp, sB.1⟩
    rw [t1]
    have lT : T1.length = mid - a := by rw [t2.length_eq, List.length_append]; omega
    obtain ⟨T2, u1, u2, u3⟩ : ∃ T2, (if mid < e ∧ e < b then symM lt z f mid e b (P ++ T1 ++ A2 ++ B2 ++ Q) else (P ++ T1 ++ A2 ++ B2 ++ Q)) = P ++ T1 ++ T2 ++ Q ∧ List.Perm T2 (A2 ++ B2) ∧ Asc lt T2 := by
      by_cases c : mid < e ∧ e < b
      · rw [if_pos c]
        obtain ⟨T, q1, q2, q3⟩ := symM_ok o f A2 B2 (P ++ T1) Q (by omega) (by omega) (by omega) sA.2.1 sB.2.1
        rw [show (P ++ T1).length = mid by simp; omega, show mid + A2.length = e by omega, show e + B2.length = b by omega] at q1
        exact ⟨T, q1, q2, q3⟩
      · rw [if_neg c]
        by_cases c' : mid < e
        · obtain rfl := List.length_eq_zero_iff.1 (show B2.length = 0 by omega)
          exact ⟨A2, by simp, by simp, sA.2.1⟩
        · obtain rfl := List.length_eq_zero_iff.1 (show A2.length = 0 by omega)
          exact ⟨B2, by simp, by simp, sB.2.1⟩
    refine ⟨T1 ++ T2, by rw [u1]; simp, ?_, ?_⟩
    · refine (List.Perm.append t2 u2).trans ?_
      rw [List.append_assoc, List.append_assoc]
      refine List.Perm.append_left A1 ?_
      rw [← List.append_assoc, ← List.append_assoc]
      exact List.Perm.append_right B2 List.perm_append_comm
    · rw [asc_app]
      exact ⟨t3, u3, fun u hu v hv => XX u (t2.mem_iff.1 hu) v (u2.mem_iff.1 hv)⟩
/-! ### the whole -/
inductive Bl (lt : α → α → Bool) (k : Nat) : List α → Prop
  | last {A : List α} : A.length ≤ k → Asc lt A → Bl lt k A
  | cons {A R : List α} : A.length = k → Asc lt A → Bl lt k R → Bl lt k (A ++ R)
theorem Bl.asc {lt : α → α → Bool} {k : Nat} {R : List α} (h : Bl lt k R) (hl : R.length ≤ k) : Asc lt R := by
  cases h with
  | last _ h => exact h
  | cons h1 h2 h3 =>
    rw [List.length_append] at hl
    rename_i A R2
    obtain rfl := List.length_eq_zero_iff.1 (show R2.length = 0 by omega)
    simpa using h2
theorem Bl.part {lt : α → α → Bool} {k : Nat} {R : List α} (h : Bl lt k R) (hl : k ≤ R.length) : ∃ A R2, R = A ++ R2 ∧ A.length = k ∧ Asc lt A ∧ Bl lt k R2 := by
  cases h with
  | last h1 h2 => exact ⟨R, [], by simp, by omega, h2, .last (by simp) (by simp [Asc])⟩
  | cons h1 h2 h3 => exact ⟨_, _, rfl, h1, h2, h3⟩
def stBl (n : Nat) : Nat → Nat → List α → List α
  | 0, _, xs => xs
  | f + 1, a, xs => if a + 20 ≤ n then stBl n f (a + 20) (insSort lt z a (a + 20) xs) else insSort lt z a n xs
theorem stBl_ok (o : Ord lt) : ∀ (f : Nat) (P R : List α), R.length < f → ∃ T, stBl lt z (P.length + R.length) f P.length (P ++ R) = P ++ T ∧ List.Perm T R ∧ Bl lt 20 T
  | 0, P, R, h => by omega
  | f + 1, P, R, h => by
    rw [stBl]
    by_cases c : P.length + 20 ≤ P.length + R.length
    · rw [if_pos c]
      obtain ⟨A, R2, rfl, hl⟩ : ∃ A R2, R = A ++ R2 ∧ A.length = 20 := ⟨R.take 20, R.drop 20, (List.take_append_drop _ _).symm, by simp; omega⟩
      obtain ⟨T, t1, t2, t3⟩ := insSort_ok lt z o P A R2 (a := P.length) (b := P.length + 20) rfl (by omega)
      have lT : T.length = 20 := by rw [t2.length_eq, hl]
      rw [← List.append_assoc, t1]
      rw [List.length_append] at h
      obtain ⟨V, v1, v2, v3⟩ := stBl_ok o f (P ++ T) R2 (by omega)
      rw [show (P ++ T).length = P.length + 20 by simp [lT], show P.length + 20 + R2.length = P.length + (A ++ R2).length by simp; omega] at v1
      exact ⟨T ++ V, by rw [v1]; simp, List.Perm.append t2 v2, .cons lT t3 v3⟩
    · rw [if_neg c]
      obtain ⟨T, t1, t2, t3⟩ := insSort_ok lt z o P R [] (a := P.length) (b := P.length + R.length) rfl rfl
      simp only [List.append_nil] at t1
      exact ⟨T, t1, t2, .last (by rw [t2.length_eq]; omega) t3⟩
def stMg (k n : Nat) : Nat → Nat → List α → List α
  | 0, _, xs => xs
  | f + 1, a, xs => if a + 2 * k ≤ n then stMg k n f (a + 2 * k) (symM lt z (2 * k) a (a + k) (a + 2 * k) xs) else if a + k < n then symM lt z (n - a) a (a + k) n xs else xs
theorem stMg_ok (o : Ord lt) {k : Nat} (hk : 0 < k) : ∀ (f : Nat) (P R : List α), R.length < f → Bl lt k R → ∃ T, stMg lt z k (P.length + R.length) f P.length (P ++ R) = P ++ T ∧ List.Perm T R ∧ Bl lt (2 * k) T
  | 0, P, R, h, hb => by omega
  | f + 1, P, R, h, hb => by
    rw [stMg]
    by_cases c : P.length + 2 * k ≤ P.length + R.length
    · rw [if_pos c]
      obtain ⟨A, R1, rfl, hA, sA, hb1⟩ := hb.part (by omega)
      rw [List.length_append] at h c
      obtain ⟨B, R2, rfl, hB, sB, hb2⟩ := hb1.part (by omega)
      rw [List.length_append] at h c
      obtain ⟨T, t1, t2, t3⟩ := symM_ok lt z o (2 * k) A B P R2 (by omega) (by omega) (by omega) sA sB
      rw [hA, hB, show P.length + k + k = P.length + 2 * k by omega] at t1
      have lT : T.length = 2 * k := by rw [t2.length_eq, List.length_append]; omega
      rw [show P ++ (A ++ (B ++ R2)) = P ++ A ++ B ++ R2 by simp, t1]
      obtain ⟨V, v1, v2, v3⟩ := stMg_ok o hk f (P ++ T) R2 (by omega) hb2
      rw [show (P ++ T).length = P.length + 2 * k by simp [lT], show P.length + 2 * k + R2.length = P.length + (A ++ (B ++ R2)).length by simp; omega] at v1
      refine ⟨T ++ V, by rw [v1]; simp, ?_, .cons lT t3 v3⟩
      rw [← List.append_assoc]
      exact List.Perm.append t2 v2
    · rw [if_neg c]
      by_cases c2 : P.length + k < P.length + R.length
      · rw [if_pos c2]
        obtain ⟨A, B, rfl, hA, sA, hb1⟩ := hb.part (by omega)
        rw [List.length_append] at h c c2
        obtain ⟨T, t1, t2, t3⟩ := symM_ok lt z o (P.length + (A ++ B).length - P.length) A B P [] (by omega) (by omega) (by simp) sA (hb1.asc (by omega))
        simp only [List.append_nil] at t1
        rw [hA, show P.length + k + B.length = P.length + (A ++ B).length by simp; omega] at t1
        refine ⟨T, by rw [← List.append_assoc]; exact t1, t2, .last (by rw [t2.length_eq, List.length_append]; omega) t3⟩
      · rw [if_neg c2]
        exact ⟨R, rfl, List.Perm.refl _, .last (by omega) (hb.asc (by omega))⟩
def stPs (n : Nat) : Nat → Nat → List α → List α
  | 0, _, xs => xs
  | f + 1, k, xs => if k < n then stPs n f (2 * k) (stMg lt z k n (n + 1) 0 xs) else xs
theorem stPs_ok (o : Ord lt) : ∀ (f k : Nat) (xs : List α), 0 < k → xs.length < f + k → Bl lt k xs → ∃ T, stPs lt z xs.length f k xs = T ∧ List.Perm T xs ∧ Asc lt T
  | 0, k, xs, hk, h, hb => ⟨xs, rfl, List.Perm.refl _, hb.asc (by omega)⟩
  | f + 1, k, xs, hk, h, hb => by
    rw [stPs]
    by_cases c : k < xs.length
    · rw [if_pos c]
      obtain ⟨T, t1, t2, t3⟩ := stMg_ok lt z o hk (xs.length + 1) [] xs (by omega) hb
      simp only [List.length_nil, Nat.zero_add, List.nil_append] at t1
      rw [t1]
      obtain ⟨V, v1, v2, v3⟩ := stPs_ok o f (2 * k) T (by omega) (by rw [t2.length_eq]; omega) t3
      rw [t2.length_eq] at v1
      exact ⟨V, v1, v2.trans t2, v3⟩
    · rw [if_neg c]
      exact ⟨xs, rfl, List.Perm.refl _, hb.asc (by omega)⟩
/-- slices.SortStableFunc. -/
def stable (xs : List α) : List α := stPs lt z xs.length xs.length 20 (stBl lt z xs.length (xs.length + 1) 0 xs)
theorem stable_ok (o : Ord lt) (xs : List α) : List.Perm (stable lt z xs) xs ∧ Asc lt (stable lt z xs) := by
  obtain ⟨T, t1, t2, t3⟩ := stBl_ok lt z o (xs.length + 1) [] xs (by omega)
  simp only [List.length_nil, Nat.zero_add, List.nil_append] at t1
  unfold stable
  rw [t1]
  obtain ⟨V, v1, v2, v3⟩ := stPs_ok lt z o xs.length 20 T (by omega) (by rw [t2.length_eq]; omega) t3
  rw [t2.length_eq] at v1
  rw [v1]
  exact ⟨v2.trans t2, v3⟩
/-- Where none but equal ones are at most each other, an ascending row is told by what it holds. -/
theorem asc_one {lt : α → α → Bool} (anti : ∀ x y, lt x y = false → lt y x = false → x = y) : ∀ {xs ys : List α}, List.Perm xs ys → Asc lt xs → Asc lt ys → xs = ys := by
  intro xs ys hp h1 h2
  exact hp.eq_of_pairwise (fun a b _ _ q1 q2 => anti a b q2 q1) h1 h2
end
end Go.Proofs.Ytonimhfahjediaa.St
end
section
namespace Go.Proofs.Ytonimhfahjediaa.Pk
open Go.RowKit Go.Proofs.YtonimhfahjediaaW.PrintWords Go.Proofs.YtonimhfahjediaaW.PrintLast Go.Proofs.Ytonimhfahjediaa.Pl Go.Proofs.Ytonimhfahjediaa.Ext
set_option linter.unusedVariables false
set_option linter.unusedSimpArgs false
/-- A comparison that is right at x: equal ones alone are 0, turned round it changes its sign, and it is transitive. -/
def At {α : Type} (c : α → α → Int) (x : α) : Prop := (∀ y, c x y = 0 → x = y) ∧ (∀ y, c y x = - c x y) ∧ (∀ y w, c x y ≤ 0 → c y w ≤ 0 → c x w ≤ 0)
theorem At.less {α : Type} {c : α → α → Int} {x y w : α} (h : At c x) (h1 : c x y < 0) (h2 : c y w ≤ 0) : c x w < 0 := by
  have h3 := h.2.2 y w (by omega) h2
  rcases Int.lt_or_eq_of_le h3 with h3 | h3
  · exact h3
  · have e := h.1 w h3
    subst e
    have := h.2.1 y
    omega
theorem cmpI_at (a : Int) : At cmpI a := by
  refine ⟨fun b h => ?_, fun b => ?_, fun b d h1 h2 => ?_⟩
  · by_cases e : a = b
    · exact e
    · exact absurd h (cmpI_ne e)
  · unfold cmpI
    by_cases h1 : a < b
    · rw [if_pos h1, if_neg (by omega), if_pos (by omega)]; rfl
    · by_cases h2 : a > b
      · rw [if_pos h2, if_neg h1, if_pos h2]
      · rw [if_neg (by omega), if_neg (by omega), if_neg h1, if_neg h2]; rfl
  · unfold cmpI at *
    by_cases h : a < d
    · rw [if_pos h]; omega
    · rw [if_neg h]
      by_cases h' : a > d
      · exfalso
        by_cases g1 : a < b
        · rw [if_neg (by omega : ¬ b < d), if_pos (by omega : b > d)] at h2; omega
        · rw [if_neg g1] at h1
          by_cases g2 : a > b
          · rw [if_pos g2] at h1; omega
          · rw [if_neg (by omega : ¬ b < d), if_pos (by omega : b > d)] at h2; omega
      · rw [if_neg h']; omega
theorem bl_trans : ∀ a b d : List UInt8, Op.bytesLess b a = false → Op.bytesLess d b = false → Op.bytesLess d a = false
  | [], b, d, h1, h2 => by
    cases d with
    | nil => rfl
    | cons => rfl
  | x :: a, [], d, h1, h2 => by simp [Op.bytesLess] at h1
  | x :: a, y :: b, [], h1, h2 => by simp [Op.bytesLess] at h2
  | x :: a, y :: b, w :: d, h1, h2 => by
    simp only [Op.bytesLess, Bool.or_eq_false_iff, Bool.and_eq_false_iff, decide_eq_false_iff_not, beq_eq_false_iff_ne] at *
    have ih := bl_trans a b d
    obtain ⟨p1, p2⟩ := h1
    obtain ⟨q1, q2⟩ := h2
    have p1' : ¬ y.toNat < x.toNat := fun h => p1 h
    have q1' : ¬ w.toNat < y.toNat := fun h => q1 h
    refine ⟨fun h => ?_, ?_⟩
    · have : w.toNat < x.toNat := h
      omega
    · by_cases e : w = x
      · right
        have e2 : y.toNat = x.toNat := by
          have : w.toNat = x.toNat := by rw [e]
          omega
        have e3 : y = x := UInt8.toNat_inj.mp e2
        exact ih (p2.resolve_left (fun h => h e3)) (q2.resolve_left (fun h => h (e.trans e3.symm)))
      · left; exact e
theorem str_inj {a b : ByteArray} (h : a.toList = b.toList) : a = b := by
  rw [Lib.toList_data, Lib.toList_data] at h
  cases a; cases b
  simp only [ByteArray.mk.injEq]
  exact Array.toList_inj.1 h
theorem cmpS_at (a : ByteArray) : At cmpS a := by
  refine ⟨fun b h => ?_, fun b => ?_, fun b d h1 h2 => ?_⟩
  · by_cases e : a.toList = b.toList
    · exact str_inj e
    · exact absurd h (cmpS_ne e).1
  · by_cases e : a.toList = b.toList
    · rw [cmpS_eq e, cmpS_eq e.symm]; rfl
    · have s1 := Go.Proofs.Ytonimhfahjediaa.Ext.bytesLess_swap a.toList b.toList
      have e' : (a.toList == b.toList) = false := beq_eq_false_iff_ne.2 e
      rw [e', Bool.or_false] at s1
      unfold cmpS
      rw [s1]
      cases Op.bytesLess a.toList b.toList <;> rfl
  · have le : ∀ x y : ByteArray, cmpS x y ≤ 0 ↔ Op.bytesLess y.toList x.toList = false := by
      intro x y
      by_cases e : x.toList = y.toList
      · rw [cmpS_eq e, e, bytesLess_self]; simp
      · have s1 := Go.Proofs.Ytonimhfahjediaa.Ext.bytesLess_swap x.toList y.toList
        have e' : (x.toList == y.toList) = false := beq_eq_false_iff_ne.2 e
        rw [e', Bool.or_false] at s1
        unfold cmpS
        rw [s1]
        cases Op.bytesLess x.toList y.toList <;> simp
    rw [le] at *
    exact bl_trans _ _ _ h1 h2
/-- first the first, then the second -/
def lexP {α β : Type} (c : α → α → Int) (d : β → β → Int) (x y : α × β) : Int := if c x.1 y.1 = 0 then d x.2 y.2 else c x.1 y.1
theorem lexP_at {α β : Type} {c : α → α → Int} {d : β → β → Int} {x : α × β} (h1 : At c x.1) (h2 : At d x.2) : At (lexP c d) x := by
  refine ⟨fun y h => ?_, fun y => ?_, fun y w p1 p2 => ?_⟩
  · unfold lexP at h
    by_cases e : c x.1 y.1 = 0
    · rw [if_pos e] at h
      exact Prod.ext (h1.1 _ e) (h2.1 _ h)
    · rw [if_neg e] at h
      exact absurd h e
  · unfold lexP
    have := h1.2.1 y.1
    by_cases e : c x.1 y.1 = 0
    · rw [if_pos e, if_pos (by omega)]; exact h2.2.1 y.2
    · rw [if_neg e, if_neg (by omega)]; exact this
  · unfold lexP at *
    by_cases e1 : c x.1 y.1 = 0
    · rw [if_pos e1] at p1
      have q1 := h1.1 _ e1
      rw [← q1] at p2
      by_cases e2 : c x.1 w.1 = 0
      · rw [if_pos e2] at p2 ⊢
        exact h2.2.2 _ _ p1 p2
      · rw [if_neg e2] at p2 ⊢
        exact p2
    · rw [if_neg e1] at p1
      have p2' : c y.1 w.1 ≤ 0 := by
        by_cases e2 : c y.1 w.1 = 0
        · omega
        · rwa [if_neg e2] at p2
      have h3 := h1.less (show c x.1 y.1 < 0 by omega) p2'
      rw [if_neg (by omega)]
      omega
/-- rows: the first difference, then the shorter -/
def lexL {α : Type} (c : α → α → Int) : List α → List α → Int
  | [], [] => 0
  | [], _ :: _ => -1
  | _ :: _, [] => 1
  | x :: a, y :: b => if c x y = 0 then lexL c a b else c x y
theorem lexL_at {α : Type} {c : α → α → Int} : ∀ (xs : List α), (∀ x ∈ xs, At c x) → At (lexL c) xs
  | [], _ => by
    refine ⟨fun y h => ?_, fun y => ?_, fun y w p1 p2 => ?_⟩
    · cases y with
      | nil => rfl
      | cons => simp [lexL] at h
    · cases y <;> simp [lexL]
    · cases w <;> simp [lexL]
  | x :: a, h => by
    have hx := h x (List.mem_cons_self ..)
    have ih := lexL_at a (fun u hu => h u (List.mem_cons_of_mem _ hu))
    have hp : At (lexP c (lexL c)) (x, a) := lexP_at hx ih
    have ev : ∀ y b, lexL c (x :: a) (y :: b) = lexP c (lexL c) (x, a) (y, b) := fun y b => rfl
    have ev2 : ∀ y b, lexL c (y :: b) (x :: a) = lexP c (lexL c) (y, b) (x, a) := fun y b => rfl
    have ev3 : ∀ y b w d, lexL c (y :: b) (w :: d) = lexP c (lexL c) (y, b) (w, d) := fun y b w d => rfl
    refine ⟨fun y q => ?_, fun y => ?_, fun y w p1 p2 => ?_⟩
    · cases y with
      | nil => simp [lexL] at q
      | cons y b =>
        rw [ev] at q
        have := hp.1 _ q
        simp only [Prod.mk.injEq] at this
        rw [this.1, this.2]
    · cases y with
      | nil => simp [lexL]
      | cons y b => rw [ev, ev2]; exact hp.2.1 _
    · cases y with
      | nil => simp [lexL] at p1
      | cons y b =>
        cases w with
        | nil => simp [lexL] at p2
        | cons w d =>
          rw [ev3] at p1 p2 ⊢
          exact hp.2.2 _ _ p1 p2
mutual
def cmT : S30 → S30 → Int
  | ⟨k, n, ls, as_⟩, y => if cmpI k y.f0 = 0 then (if cmpI n y.f1 = 0 then (if cmpI (as_.length : Int) (y.f3.length : Int) = 0 then (if lexL cmpS ls y.f2 = 0 then cmTS as_ y.f3 else lexL cmpS ls y.f2) else cmpI (as_.length : Int) (y.f3.length : Int)) else cmpI n y.f1) else cmpI k y.f0
def cmTS : List S30 → List S30 → Int
  | [], [] => 0
  | [], _ :: _ => -1
  | _ :: _, [] => 1
  | x :: a, y :: b => if cmT x y = 0 then cmTS a b else cmT x y
end
theorem cmTS_lex : ∀ xs ys : List S30, cmTS xs ys = lexL cmT xs ys
  | [], [] => by simp [cmTS, lexL]
  | [], _ :: _ => by simp [cmTS, lexL]
  | _ :: _, [] => by simp [cmTS, lexL]
  | x :: a, y :: b => by rw [cmTS, lexL, cmTS_lex a b]
theorem cmT_eq (x y : S30) : cmT x y = lexP cmpI (lexP cmpI (lexP cmpI (lexP (lexL cmpS) (lexL cmT)))) (x.f0, x.f1, ((x.f3.length : Nat) : Int), x.f2, x.f3) (y.f0, y.f1, ((y.f3.length : Nat) : Int), y.f2, y.f3) := by
  obtain ⟨k, n, ls, as_⟩ := x
  rw [cmT, cmTS_lex]
  rfl
theorem cmT_at : ∀ x : S30, At cmT x := by
  refine indValueI fun x ih => ?_
  have hp := lexP_at (x := (x.f0, x.f1, ((x.f3.length : Nat) : Int), x.f2, x.f3)) (cmpI_at x.f0) (lexP_at (cmpI_at x.f1) (lexP_at (cmpI_at _) (lexP_at (lexL_at x.f2 (fun s _ => cmpS_at s)) (lexL_at x.f3 ih))))
  refine ⟨fun y h => ?_, fun y => ?_, fun y w p1 p2 => ?_⟩
  · rw [cmT_eq] at h
    have := hp.1 _ h
    simp only [Prod.mk.injEq] at this
    obtain ⟨k, n, ls, as_⟩ := x
    obtain ⟨k', n', ls', as'⟩ := y
    simp only at this
    obtain ⟨rfl, rfl, _, rfl, rfl⟩ := this
    rfl
  · rw [cmT_eq, cmT_eq]; exact hp.2.1 _
  · rw [cmT_eq] at p1 p2 ⊢
    exact hp.2.2 _ _ p1 p2
/-- less, as_ the sort asks -/
def ltT (x y : S30) : Bool := decide (cmT x y < 0)
theorem ltT_ord : St.Ord ltT := by
  refine ⟨fun x y h => ?_, fun x y w h1 h2 => ?_⟩
  · have h1 := (cmT_at x).2.1 y
    simp only [ltT, decide_eq_true_eq, decide_eq_false_iff_not] at *
    omega
  · have a1 := (cmT_at x).2.1 y
    have a2 := (cmT_at y).2.1 w
    have a3 := (cmT_at x).2.1 w
    simp only [ltT, decide_eq_false_iff_not] at *
    have := (cmT_at x).2.2 y w (by omega) (by omega)
    omega
theorem ltT_anti (x y : S30) (h1 : ltT x y = false) (h2 : ltT y x = false) : x = y := by
  have a1 := (cmT_at x).2.1 y
  simp only [ltT, decide_eq_false_iff_not] at *
  exact (cmT_at x).1 y (by omega)

end Go.Proofs.Ytonimhfahjediaa.Pk
end
section
namespace Go.Proofs.Ytonimhfahjediaa.Pk
open Go.RowKit Go.Proofs.YtonimhfahjediaaW.PrintWords Go.Proofs.YtonimhfahjediaaW.PrintLast Go.Proofs.Ytonimhfahjediaa.Pl Go.Proofs.Ytonimhfahjediaa.Ext
set_option linter.unusedVariables false
set_option linter.unusedSimpArgs false
mutual
def canT : S30 → S30
  | ⟨k, n, ls, as_⟩ => ⟨k, n, ls, if k = 4 then St.stable ltT z30 (canTS as_) else canTS as_⟩
def canTS : List S30 → List S30
  | [] => []
  | x :: r => canT x :: canTS r
end
theorem canTS_map (xs : List S30) : canTS xs = xs.map canT := by
  induction xs with
  | nil => rfl
  | cons x r ih => simp [canTS, ih]
theorem canT_eq (x : S30) : canT x = ⟨x.f0, x.f1, x.f2, if x.f0 = 4 then St.stable ltT z30 (x.f3.map canT) else x.f3.map canT⟩ := by
  obtain ⟨_, _, _, _⟩ := x
  rw [canT, canTS_map]
theorem stable_mem (xs : List S30) (y : S30) : y ∈ St.stable ltT z30 xs ↔ y ∈ xs := (St.stable_ok ltT z30 ltT_ord xs).1.mem_iff
theorem stable_len (xs : List S30) : (St.stable ltT z30 xs).length = xs.length := (St.stable_ok ltT z30 ltT_ord xs).1.length_eq
/-- Whatever else is ascending and holds the same is it. -/
theorem stable_one {xs ys : List S30} (hp : List.Perm ys xs) (ha : St.Asc ltT ys) : ys = St.stable ltT z30 xs :=
  St.asc_one ltT_anti (hp.trans (St.stable_ok ltT z30 ltT_ord xs).1.symm) ha (St.stable_ok ltT z30 ltT_ord xs).2
theorem sm_canT : ∀ x : S30, SmValue x → SmValue (canT x) := by
  refine indValueI fun x ih hs => ?_
  rw [canT_eq]
  have hm : ∀ y ∈ x.f3.map canT, SmValue y := by
    intro y hy
    obtain ⟨u, hu, rfl⟩ := List.mem_map.1 hy
    exact ih u hu (hs.p3.2 u hu)
  have hl := hs.p3.1
  by_cases h : x.f0 = 4
  · rw [if_pos h]
    exact SmValue.mk hs.p0 hs.p1 hs.p2 (by dsimp only; rw [stable_len, List.length_map]; exact hl) (fun y hy => hm y ((stable_mem _ y).1 hy))
  · rw [if_neg h]
    exact SmValue.mk hs.p0 hs.p1 hs.p2 (by dsimp only; rw [List.length_map]; exact hl) hm
end Go.Proofs.Ytonimhfahjediaa.Pk
end
section
namespace Go.Proofs.Ytonimhfahjediaa.Pk
open Go.RowKit Go.Proofs.YtonimhfahjediaaW.PrintWords Go.Proofs.YtonimhfahjediaaW.PrintLast Go.Proofs.Ytonimhfahjediaa.Pl Go.Proofs.Ytonimhfahjediaa.Ext
set_option linter.unusedVariables false
set_option linter.unusedSimpArgs false
theorem strOne (n : Int) : (strOfNums [n]).size = 1 := by simp [strOfNums]; rfl
theorem markLoop_ex : ∀ (m : Nat) (x : Int) (s : ByteArray), 0 ≤ x → x ≤ 4611686018427387904 → x < (10 : Int) ^ m → s.size + m ≤ 1000 → ∃ r, Ev (fun k => laws_markText.l0 k x s) r := by
  intro m
  induction m with
  | zero =>
    intro x s h0 hb h1 hs
    refine ⟨(⟨#[109]⟩ : ByteArray) ++ s, Ev.up ?_⟩
    simp only [laws_markText.l0]
    exact Ev.neg (by simp at h1; omega) (Ev.pos (by omega) (Ev.now _))
  | succ m ih =>
    intro x s h0 hb h1 hs
    by_cases hx : x > 0
    · have ht : Int.tdiv x 10 = x / 10 := Int.tdiv_eq_ediv_of_nonneg h0
      have hw : wrap64 (Int.tdiv x 10) = x / 10 := by rw [ht]; exact w64 (by omega) (by omega)
      have hl : x / 10 < (10 : Int) ^ m := by
        rw [Int.pow_succ] at h1
        omega
      obtain ⟨r, hr⟩ := ih (x / 10) (strOfNums [(wrap64 (48 + (Int.tmod x 10))) % 256] ++ s) (by omega) (by omega) hl (by rw [ByteArray.size_append, strOne]; omega)
      refine ⟨r, Ev.up ?_⟩
      simp only [laws_markText.l0]
      refine Ev.pos hx ?_
      refine Ev.none_bind (Ev.pos (by rw [strOne]; omega) ?_)
      rw [hw]
      exact hr
    · refine ⟨(⟨#[109]⟩ : ByteArray) ++ s, Ev.up ?_⟩
      simp only [laws_markText.l0]
      exact Ev.neg hx (Ev.pos (by omega) (Ev.now _))
theorem markText_ex (a : Int) (hb : a ≤ 4611686018427387904) : ∃ r, Ev (fun k => laws_markText.f k a) r := by
  by_cases h : a ≤ 0
  · refine ⟨(⟨#[109, 48]⟩ : ByteArray), ?_⟩
    simp only [laws_markText.f]
    exact Ev.pos h (Ev.now _)
  · obtain ⟨r, hr⟩ := markLoop_ex 19 a ⟨#[]⟩ (by omega) hb (by omega) (by decide)
    refine ⟨r, ?_⟩
    simp only [laws_markText.f]
    exact Ev.neg h hr
open Classical in
/-- The text that marks k. -/
noncomputable def mt (a : Int) : ByteArray := if h : ∃ r, Ev (fun k => laws_markText.f k a) r then h.choose else ⟨#[]⟩
theorem mt_ev (a : Int) (hb : a ≤ 4611686018427387904) : Ev (fun k => laws_markText.f k a) (mt a) := by
  have h := markText_ex a hb
  unfold mt
  rw [dif_pos h]
  exact h.choose_spec
noncomputable def mtS (a : Int) : Nat → List ByteArray
  | 0 => []
  | n + 1 => mt a :: mtS (a + 1) n
theorem mtS_length : ∀ (n : Nat) (a : Int), (mtS a n).length = n
  | 0, _ => rfl
  | n + 1, a => by simp [mtS, mtS_length n]
theorem markLoopS_ev (xs : List ByteArray) (hx : xs.length ≤ 2097152) : ∀ (m i : Nat) (out : List ByteArray) (a : Int), i + m = xs.length → out.length = xs.length → 0 ≤ a → a + m ≤ 4611686018427387904 →
    Ev (fun k => laws_markStringS.l0 k out a (i : Int)) (a + m, out.take i ++ mtS a m) := by
  intro m
  induction m with
  | zero =>
    intro i out a hi hl h0 hb
    refine Ev.up ?_
    simp only [laws_markStringS.l0]
    refine Ev.neg (by omega) (Ev.const ?_)
    rw [List.take_of_length_le (by omega)]
    simp [mtS]
  | succ m ih =>
    intro i out a hi hl h0 hb
    refine Ev.up ?_
    simp only [laws_markStringS.l0]
    refine Ev.pos (by omega) (Ev.bind (mt_ev a (by omega)) (Ev.pos (by omega) ?_))
    rw [w1 (show i < xs.length by omega) (by unfold maxLen; omega), show wrap64 (a + 1) = a + 1 from w64 (by omega) (by omega)]
    refine Ev.eq (ih (i + 1) (out.set i (mt a)) (a + 1) (by omega) (by simpa using hl) (by omega) (by omega)) ?_
    rw [List.take_succ_eq_append_getElem (by simp; omega)]
    simp only [List.getElem_set_self, List.take_set_of_le (Nat.le_refl i), mtS, List.append_assoc, List.singleton_append, Prod.mk.injEq, and_true]
    omega
theorem markStringS_ev (xs : List ByteArray) (hx : xs.length ≤ 2097152) (a : Int) (h0 : 0 ≤ a) (hb : a + xs.length ≤ 4611686018427387904) : Ev (fun k => laws_markStringS.f k xs a) (a + xs.length, mtS a xs.length) := by
  simp only [laws_markStringS.f]
  simpa using markLoopS_ev xs hx xs.length 0 xs a (by omega) rfl h0 hb
theorem mtS_getD (d : ByteArray) : ∀ (n i : Nat) (a : Int), i < n → (mtS a n).getD i d = mt (a + i)
  | 0, i, _, h => by omega
  | n + 1, 0, a, _ => by simp [mtS]
  | n + 1, i + 1, a, h => by
    have := mtS_getD d n i (a + 1) (by omega)
    simp only [mtS, List.getD_cons_succ, this]
    congr 1
    omega
theorem heldStringS_ev (n : Nat) (hn : n ≤ 2097152) (a : Int) (h0 : 0 ≤ a) (hb : a + n ≤ 4611686018427387904) : Ev (fun k => laws_heldStringS.f k (mtS a n) a) (a + n) := by
  suffices h : ∀ (m i : Nat), i + m = n → Ev (fun k => laws_heldStringS.l0 k (mtS a n) (a + i) (i : Int)) (a + n) by
    simp only [laws_heldStringS.f]
    simpa using h n 0 (by omega)
  intro m
  induction m with
  | zero =>
    intro i hi
    refine Ev.up ?_
    simp only [laws_heldStringS.l0, mtS_length]
    exact Ev.neg (by omega) (Ev.const (by omega))
  | succ m ih =>
    intro i hi
    refine Ev.up ?_
    simp only [laws_heldStringS.l0, mtS_length]
    refine Ev.pos (by omega) (Ev.pos (by omega) (Ev.bind (mt_ev (a + i) (by omega)) (Ev.pos ?_ ?_)))
    · rw [rdOf_str, mtS_getD _ n i a (by omega)]
    · rw [w1 (show i < n by omega) (by unfold maxLen; omega), show wrap64 (a + i + 1) = a + ((i + 1 : Nat) : Int) from by rw [w64 (by omega) (by omega)]; omega]
      exact ih (i + 1) (by omega)
/-- markStringS at a row that it is given to write. -/
theorem markStringS_own (xs : List ByteArray) (hx : xs.length ≤ 2097152) (a : Int) (h0 : 0 ≤ a) (hb : a + xs.length ≤ 4611686018427387904) (v : Value) (ok : Nat → Prop) (w0 w : World) (hB : Below w0.heap.size w0 w) (ho : Kd.R Kd.string 9 w w0.heap.size ok v xs) :
    Calls Try.prog 29 #[v, .int .i64 a] w fun e w' => e = .returned (.int .i64 (a + xs.length)) ∧ Kd.R Kd.string 9 w' w0.heap.size ok v (mtS a xs.length) ∧ Below w0.heap.size w0 w' ∧ Kept w w' ok := by
  obtain ⟨K, hK⟩ := markStringS_ev xs hx a h0 hb
  refine (laws_markStringS.calls K ok v xs a _ _ w0 w hB ho (hK K (Nat.le_refl K))).mono ?_
  rintro e w' ⟨he, hr, hb', hk⟩
  exact ⟨he, Kd.R_reok rfl hr ho.1, hb', hk⟩
end Go.Proofs.Ytonimhfahjediaa.Pk
end
