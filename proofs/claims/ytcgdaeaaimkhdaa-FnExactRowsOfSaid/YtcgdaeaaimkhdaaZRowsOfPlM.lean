/- Plain words for the pure statements: what a function with rounds comes to, loops, cuts of a budget. No condition. -/
import Derived.Test.YtcgdaeaaimkhdaaZRowsOfWWords
import Derived.Test.YtcgdaeaaimkhdaaZRowsOfWLastM
import Derived.Test.YtcgdaeaaimkhdaaZRowsOfExtM
import Derived.Test.YtcgdaeaaimkhdaaZRowsOfPy12M
import Derived.Test.YtcgdaeaaimkhdaaZRowsOfPy14M
import Derived.Test.YtcgdaeaaimkhdaaZRowsOfPy11
import Derived.Test.YtcgdaeaaimkhdaaZRowsOfPy16
section
namespace Go.Proofs.Ytcgdaeaaimkhdaa.Pl
open Go.RowKit Go.Proofs.YtcgdaeaaimkhdaaW.PrintWords
set_option linter.unusedVariables false
theorem Ev.up {α : Type} {g : Nat → Option α} {r : α} (h : Ev (fun k => g (k + 1)) r) : Ev g r := Ev.step (f := fun k => g (k + 1)) (fun _ => rfl) h
theorem Ev.pos {α : Type} {A B : Nat → Option α} {r : α} {c : Prop} [Decidable c] (hc : c) (h : Ev A r) : Ev (fun n => if c then A n else B n) r :=
  Ev.congr (f := A) (fun k => by rw [if_pos hc]) h
theorem Ev.neg {α : Type} {A B : Nat → Option α} {r : α} {c : Prop} [Decidable c] (hc : ¬ c) (h : Ev B r) : Ev (fun n => if c then A n else B n) r :=
  Ev.congr (f := B) (fun k => by rw [if_neg hc]) h
theorem Ev.cases {α : Type} {A B : Nat → Option α} {r : α} {c : Prop} [Decidable c] (h1 : c → Ev A r) (h2 : ¬ c → Ev B r) : Ev (fun n => if c then A n else B n) r := by
  by_cases hc : c
  · exact Ev.pos hc (h1 hc)
  · exact Ev.neg hc (h2 hc)
theorem Ev.eq {α : Type} {g : Nat → Option α} {r r' : α} (h : Ev g r) (e : r = r') : Ev g r' := e ▸ h
theorem Ev.const {α : Type} {a r : α} (e : a = r) : Ev (fun _ => some a) r := by subst e; exact Ev.now _
theorem Ev.none_bind {α β : Type} {a : α} {f : Nat → α → Option β} {r : β} (h : Ev (fun n => f n a) r) : Ev (fun n => (some a).bind (f n)) r := h
/-- A call without rounds. -/
theorem Ev.fix {α β : Type} {g : Option α} {a : α} {f : Nat → α → Option β} {r : β} (hg : g = some a) (h : Ev (fun n => f n a) r) : Ev (fun n => g.bind (f n)) r := by subst hg; exact h
theorem w1 {i n : Nat} (h : i < n) (hn : n ≤ maxLen) : wrap64 ((i : Int) + 1) = ((i + 1 : Nat) : Int) := by
  have : n ≤ 9223372036854775807 := hn
  unfold wrap64
  omega
theorem w1' {i n : Nat} (h : i < n) (hn : n ≤ 1048576) : wrap64 ((i : Int) + 1) = ((i + 1 : Nat) : Int) := w1 h (by unfold maxLen; omega)
theorem w64 {a : Int} (h : -9223372036854775808 ≤ a) (h2 : a ≤ 9223372036854775807) : wrap64 a = a := by unfold wrap64; omega
/-- What is left of a budget, or -1. -/
def cut (n : Nat) (left : Int) : Int := if (n : Int) ≤ left then left - n else -1
theorem cut_zero {left : Int} (h : 0 ≤ left) : cut 0 left = left := by unfold cut; rw [if_pos (by omega)]; omega
theorem cut_neg {n : Nat} {left : Int} : cut n left < 0 ↔ ¬ ((n : Int) ≤ left) := by
  unfold cut
  split <;> omega
theorem cut_le {n : Nat} {left : Int} (h : 0 ≤ left) : cut n left ≤ left := by unfold cut; split <;> omega
theorem cut_add {m n : Nat} {left : Int} (h : 0 ≤ cut m left) : cut n (cut m left) = cut (m + n) left := by
  unfold cut at *
  split at h
  · rename_i h1
    simp only [if_pos h1]
    by_cases h2 : (n : Int) ≤ left - m
    · rw [if_pos h2, if_pos (by omega)]; omega
    · rw [if_neg h2, if_neg (by omega)]
  · omega
theorem cut_add' {m n : Nat} {left : Int} (h : cut m left < 0) : cut (m + n) left = -1 := by
  have := cut_neg.1 h
  unfold cut
  rw [if_neg (by omega)]
/-- 'left -= n; if left < 0 { return -1 }' -/
theorem cut_sub {n : Nat} {left : Int} (h : 0 ≤ left) (hl : left ≤ 1048576) (hn : n ≤ maxLen) : (wrap64 (left - (n : Int)) < 0 ↔ cut n left < 0) ∧ (0 ≤ cut n left → wrap64 (left - (n : Int)) = cut n left) := by
  have hn' : n ≤ 9223372036854775807 := hn
  have e : wrap64 (left - (n : Int)) = left - n := w64 (by omega) (by omega)
  rw [e, cut_neg]
  unfold cut
  constructor
  · omega
  · intro h2
    split at h2
    · rename_i h3; rw [if_pos h3]
    · omega
def sumF (W : Nat → Nat) : Nat → Nat → Nat
  | _, 0 => 0
  | i, m + 1 => W i + sumF W (i + 1) m
theorem sz_loop (n : Nat) (X : Nat → Nat → Int → Option Int) (L : Nat → Int → Nat → Option Int) (W : Nat → Nat)
    (h1 : ∀ k left i, i < n → L (k + 1) left i = (X k i left).bind fun t => if t < 0 then some (-1) else L k t (i + 1))
    (h2 : ∀ k left, L (k + 1) left n = some left)
    (hX : ∀ i left, i < n → 0 ≤ left → left ≤ 1048576 → Ev (fun k => X k i left) (cut (W i) left)) :
    ∀ m i left, i + m = n → 0 ≤ left → left ≤ 1048576 → Ev (fun k => L k left i) (cut (sumF W i m) left) := by
  intro m
  induction m with
  | zero =>
    intro i left hi h0 hl
    obtain rfl : i = n := by omega
    refine Ev.step (h2 · left) ?_
    exact Ev.const (cut_zero h0).symm
  | succ m ih =>
    intro i left hi h0 hl
    refine Ev.step (fun k => h1 k left i (by omega)) (Ev.bind (hX i left (by omega) h0 hl) ?_)
    by_cases hc : cut (W i) left < 0
    · exact Ev.pos hc (Ev.const (cut_add' hc).symm)
    · refine Ev.neg hc (Ev.eq (ih (i + 1) _ (by omega) (by omega) ?_) (cut_add (by omega)))
      have := cut_le (n := W i) h0
      omega
theorem sz_loop' (n : Nat) (L : Nat → Int → Nat → Option Int) (W : Nat → Nat)
    (h1 : ∀ k left i, i < n → 0 ≤ left → left ≤ 1048576 → L (k + 1) left i = if cut (W i) left < 0 then some (-1) else L k (cut (W i) left) (i + 1))
    (h2 : ∀ k left, L (k + 1) left n = some left) :
    ∀ m i left, i + m = n → 0 ≤ left → left ≤ 1048576 → Ev (fun k => L k left i) (cut (sumF W i m) left) := by
  intro m
  induction m with
  | zero =>
    intro i left hi h0 hl
    obtain rfl : i = n := by omega
    refine Ev.step (h2 · left) ?_
    exact Ev.const (cut_zero h0).symm
  | succ m ih =>
    intro i left hi h0 hl
    refine Ev.step (fun k => h1 k left i (by omega) h0 hl) ?_
    by_cases hc : cut (W i) left < 0
    · exact Ev.pos hc (Ev.const (cut_add' hc).symm)
    · refine Ev.neg hc (Ev.eq (ih (i + 1) _ (by omega) (by omega) ?_) (cut_add (by omega)))
      have := cut_le (n := W i) h0
      omega
theorem Ev.map {α β : Type} {g : Nat → Option α} {a : α} (f : α → β) (h : Ev g a) : Ev (fun k => (g k).map f) (f a) := by
  obtain ⟨K, hK⟩ := h
  exact ⟨K, fun k hk => by show (g k).map f = _; rw [hK k hk]; rfl⟩
theorem to_loop {α : Type} (n : Nat) (X : Nat → Nat → Option α) (L : Nat → List α → Nat → Option (List α)) (v : Nat → α)
    (h1 : ∀ k out i, i < n → out.length = n → L (k + 1) out i = (X k i).bind fun t => L k (out.set i t) (i + 1))
    (h2 : ∀ k out, L (k + 1) out n = some out)
    (hX : ∀ i, i < n → Ev (fun k => X k i) (v i)) :
    ∀ m i out, i + m = n → out.length = n → Ev (fun k => L k out i) (out.take i ++ (List.range' i m).map v) := by
  intro m
  induction m with
  | zero =>
    intro i out hi hl
    obtain rfl : i = n := by omega
    refine Ev.step (h2 · out) (Ev.const ?_)
    simp [← hl]
  | succ m ih =>
    intro i out hi hl
    refine Ev.step (fun k => h1 k out i (by omega) hl) (Ev.bind (hX i (by omega)) ?_)
    refine Ev.eq (ih (i + 1) (out.set i (v i)) (by omega) (by simpa using hl)) ?_
    rw [List.range'_succ, List.map_cons, List.take_succ_eq_append_getElem (by simp; omega)]
    simp [List.take_set_of_le]
theorem eq_loop (n : Nat) (X : Nat → Nat → Option Bool) (L : Nat → Nat → Option Bool)
    (h1 : ∀ k i, i < n → L (k + 1) i = (X k i).bind fun t => if t = true then L k (i + 1) else some false)
    (h2 : ∀ k, L (k + 1) n = some true)
    (hX : ∀ i, i < n → Ev (fun k => X k i) true) :
    ∀ m i, i + m = n → Ev (fun k => L k i) true := by
  intro m
  induction m with
  | zero =>
    intro i hi
    obtain rfl : i = n := by omega
    exact Ev.step h2 (Ev.now _)
  | succ m ih =>
    intro i hi
    exact Ev.step (fun k => h1 k i (by omega)) (Ev.bind (hX i (by omega)) (Ev.pos rfl (ih (i + 1) (by omega))))
theorem range_map_getElem {α β : Type} (f : α → β) (d : α) (xs : List α) : (List.range' 0 xs.length).map (fun i => f (xs.getD i d)) = xs.map f := by
  apply List.ext_getElem
  · simp
  · intro i h1 h2
    simp at h1
    simp [h1]
theorem sumF_list {α : Type} (f : α → Nat) (d : α) (xs : List α) : ∀ m i, i + m = xs.length → sumF (fun i => f (xs.getD i d)) i m = ((xs.drop i).map f).sum := by
  intro m
  induction m with
  | zero => intro i hi; simp [sumF, List.drop_of_length_le (show xs.length ≤ i by omega)]
  | succ m ih =>
    intro i hi
    have hlt : i < xs.length := by omega
    rw [List.drop_eq_getElem_cons hlt, List.map_cons, List.sum_cons, sumF, ih (i + 1) (by omega)]
    simp [List.getD_eq_getElem?_getD, hlt]
def szs (xs : List ByteArray) : Nat := (xs.map ByteArray.size).sum
def wts (xs : List ByteArray) : Nat := xs.length + szs xs
theorem rdOf_str (xs : List ByteArray) (i : Nat) : rdOf ByteArray.empty xs (i : Int) = xs.getD i ByteArray.empty := by simp [rdOf]
theorem mem_getD {α : Type} (xs : List α) (d : α) (i : Nat) (h : i < xs.length) : xs.getD i d ∈ xs := by
  simp [List.getD_eq_getElem?_getD, h]
theorem sum_le_of_mem {α : Type} (f : α → Nat) {xs : List α} {x : α} (h : x ∈ xs) : f x ≤ (xs.map f).sum := by
  induction xs with
  | nil => cases h
  | cons y ys ih =>
    rcases List.mem_cons.1 h with rfl | h
    · simp
    · have := ih h
      simp
      omega
/-- Two texts with rounds come to the same. -/
def Same {α : Type} (f g : Nat → Option α) : Prop := ∃ r, Ev f r ∧ Ev g r
theorem Same.symm {α : Type} {f g : Nat → Option α} (h : Same f g) : Same g f := let ⟨r, a, b⟩ := h; ⟨r, b, a⟩
theorem Same.bind {α β : Type} {f g : Nat → Option α} {F G : Nat → α → Option β} (h : Same f g) (k : ∀ r, Ev f r → Ev g r → Same (F · r) (G · r)) : Same (fun n => (f n).bind (F n)) (fun n => (g n).bind (G n)) := by
  obtain ⟨r, a, b⟩ := h
  obtain ⟨s, c, d⟩ := k r a b
  exact ⟨s, Ev.bind a c, Ev.bind b d⟩
theorem Same.posL {α : Type} {A B g : Nat → Option α} {c : Prop} [Decidable c] (hc : c) (h : Same A g) : Same (fun n => if c then A n else B n) g := let ⟨r, a, b⟩ := h; ⟨r, Ev.pos hc a, b⟩
theorem Same.negL {α : Type} {A B g : Nat → Option α} {c : Prop} [Decidable c] (hc : ¬ c) (h : Same B g) : Same (fun n => if c then A n else B n) g := let ⟨r, a, b⟩ := h; ⟨r, Ev.neg hc a, b⟩
theorem Same.posR {α : Type} {A B g : Nat → Option α} {c : Prop} [Decidable c] (hc : c) (h : Same g A) : Same g (fun n => if c then A n else B n) := let ⟨r, a, b⟩ := h; ⟨r, a, Ev.pos hc b⟩
theorem Same.negR {α : Type} {A B g : Nat → Option α} {c : Prop} [Decidable c] (hc : ¬ c) (h : Same g B) : Same g (fun n => if c then A n else B n) := let ⟨r, a, b⟩ := h; ⟨r, a, Ev.neg hc b⟩
theorem Same.pos {α : Type} {A B C D : Nat → Option α} {c d : Prop} [Decidable c] [Decidable d] (hc : c) (hd : d) (h : Same A C) : Same (fun n => if c then A n else B n) (fun n => if d then C n else D n) := Same.posL hc (Same.posR hd h)
theorem Same.neg {α : Type} {A B C D : Nat → Option α} {c d : Prop} [Decidable c] [Decidable d] (hc : ¬ c) (hd : ¬ d) (h : Same B D) : Same (fun n => if c then A n else B n) (fun n => if d then C n else D n) := Same.negL hc (Same.negR hd h)
theorem Same.up {α : Type} {f g : Nat → Option α} (h : Same (fun k => f (k + 1)) (fun k => g (k + 1))) : Same f g := let ⟨r, a, b⟩ := h; ⟨r, Ev.up a, Ev.up b⟩
/-- A loop over an index, on both sides, with one state. -/
theorem Same.loop {σ ρ : Type} (n : Nat) (L M : Nat → σ → Nat → Option ρ) (hend : ∀ s, Same (fun k => L k s n) (fun k => M k s n))
    (hstep : ∀ i s, i < n → (∀ s', Same (fun k => L k s' (i + 1)) (fun k => M k s' (i + 1))) → Same (fun k => L k s i) (fun k => M k s i)) : ∀ s, Same (fun k => L k s 0) (fun k => M k s 0) := by
  suffices h : ∀ m i s, i + m = n → Same (fun k => L k s i) (fun k => M k s i) from fun s => h n 0 s (by omega)
  intro m
  induction m with
  | zero => intro i s hi; obtain rfl : i = n := by omega
            exact hend s
  | succ m ih => intro i s hi; exact hstep i s (by omega) (fun s' => ih (i + 1) s' (by omega))
end Go.Proofs.Ytcgdaeaaimkhdaa.Pl
end
section
namespace Go.Proofs.Ytcgdaeaaimkhdaa.Py
open Go.RowKit Go.Proofs.YtcgdaeaaimkhdaaW.PrintWords Go.Proofs.Ytcgdaeaaimkhdaa.Pl
set_option linter.unusedVariables false
set_option linter.unusedSimpArgs false
theorem szStringS_ev (xs : List ByteArray) (hx : xs.length ≤ maxLen ∧ ∀ y ∈ xs, y.size ≤ maxLen) (left : Int) (h0 : 0 ≤ left) (hl : left ≤ 1048576) : Ev (fun k => laws_szStringS.f k xs left) (cut (wts xs) left) := by
  simp only [laws_szStringS.f]
  have hs := cut_sub (n := xs.length) h0 hl hx.1
  by_cases hc : cut xs.length left < 0
  · exact Ev.pos (hs.1.2 hc) (Ev.const (cut_add' hc).symm)
  · refine Ev.neg (fun h => hc (hs.1.1 h)) ?_
    rw [hs.2 (by omega)]
    have hl2 := cut_le (n := xs.length) h0
    have hw := sz_loop' xs.length (fun k left i => laws_szStringS.l0 k xs left (i : Int)) (fun i => (xs.getD i ByteArray.empty).size) (fun k left i hi h0 hl => by
      have hz := cut_sub (n := (xs.getD i ByteArray.empty).size) h0 hl (hx.2 _ (mem_getD xs _ i hi))
      simp only [laws_szStringS.l0, rdOf_str]
      rw [if_pos (by omega), if_pos (by omega)]
      by_cases hc : cut (xs.getD i ByteArray.empty).size left < 0
      · rw [if_pos (hz.1.2 hc), if_pos hc]
      · rw [if_neg (fun h => hc (hz.1.1 h)), if_neg hc, hz.2 (by omega), w1 hi hx.1]) (fun k left => by simp only [laws_szStringS.l0]; rw [if_neg (by omega)]) xs.length 0 _ (by omega) (show 0 ≤ cut xs.length left by omega) (by omega)
    refine Ev.eq hw ?_
    rw [cut_add (by omega), sumF_list ByteArray.size ByteArray.empty xs xs.length 0 (by omega)]
    rfl
theorem toStringS_ev (xs : List ByteArray) (hx : xs.length ≤ 1048576) : Ev (fun k => laws_toStringS.f k xs) xs := by
  simp only [laws_toStringS.f]
  refine Ev.pos (by omega) (Ev.pos (by omega) ?_)
  have hw := to_loop xs.length (fun k i => some (xs.getD i ByteArray.empty)) (fun k out i => laws_toStringS.l0 k xs out (i : Int)) (fun i => xs.getD i ByteArray.empty) (fun k out i hi hl => by
    simp only [laws_toStringS.l0, rdOf_str]
    rw [if_pos (by omega), if_pos (by omega), if_pos (by omega), w1' hi hx]
    rfl) (fun k out => by simp only [laws_toStringS.l0]; rw [if_neg (by omega)]) (fun i hi => Ev.now _) xs.length 0 (List.replicate ((xs.length : Int)).toNat (⟨#[]⟩ : ByteArray)) (by omega) (by simp)
  refine Ev.eq hw ?_
  rw [List.take_zero, List.nil_append, range_map_getElem (fun x => x) ByteArray.empty xs, List.map_id']
theorem eqStringS_ev (xs : List ByteArray) (hx : xs.length ≤ 1048576) : Ev (fun k => laws_eqStringS.f k xs xs) true := by
  simp only [laws_eqStringS.f]
  refine Ev.pos (by simp) ?_
  exact eq_loop xs.length (fun k i => some true) (fun k i => laws_eqStringS.l0 k xs xs (i : Int)) (fun k i hi => by
    simp only [laws_eqStringS.l0]
    rw [if_pos (by omega), if_pos (by omega), if_pos (by omega), w1' hi hx]
    simp) (fun k => by simp only [laws_eqStringS.l0]; rw [if_neg (by omega)]) (fun i hi => Ev.now _) xs.length 0 (by omega)
end Go.Proofs.Ytcgdaeaaimkhdaa.Py
end
section
namespace Go.Proofs.Ytcgdaeaaimkhdaa.Py
open Go.RowKit Go.Proofs.YtcgdaeaaimkhdaaW.PrintWords Go.Proofs.Ytcgdaeaaimkhdaa.Pl
set_option linter.unusedVariables false
set_option linter.unusedSimpArgs false
mutual
def wtValue : S67 → Nat
  | ⟨x0, x1, x2, x3⟩ => wts x2 + (x3.length + wtValueS x3)
def wtValueS : List S67 → Nat
  | [] => 0
  | x :: r => wtValue x + wtValueS r
end
mutual
def cvValue : S67 → S70
  | ⟨x0, x1, x2, x3⟩ => ⟨x0, x1, x2, (cvValueS x3)⟩
def cvValueS : List S67 → List S70
  | [] => []
  | x :: r => cvValue x :: cvValueS r
end
theorem wtValueS_sum (xs : List S67) : wtValueS xs = (xs.map wtValue).sum := by
  induction xs with
  | nil => rfl
  | cons x r ih => simp [wtValueS, ih]
theorem cvValueS_map (xs : List S67) : cvValueS xs = xs.map cvValue := by
  induction xs with
  | nil => rfl
  | cons x r ih => simp [cvValueS, ih]
theorem wtValue_eq (x : S67) : wtValue x = wts x.f2 + (x.f3.length + wtValueS x.f3) := by cases x; simp only [wtValue]
theorem cvValue_eq (x : S67) : cvValue x = ⟨x.f0, x.f1, x.f2, (cvValueS x.f3)⟩ := by cases x; simp only [cvValue]
theorem indValueL {P : S67 → Prop} (h : ∀ x, (∀ y ∈ x.f3, P y) → P x) : ∀ x, P x
  | ⟨x0, x1, x2, x3⟩ => h _ (fun y hy => indValueL h y)
termination_by x => SizeOf.sizeOf x
decreasing_by
  have := List.sizeOf_lt_of_mem hy
  simp at this ⊢
  omega
theorem indValueI {P : S70 → Prop} (h : ∀ x, (∀ y ∈ x.f3, P y) → P x) : ∀ x, P x
  | ⟨x0, x1, x2, x3⟩ => h _ (fun y hy => indValueI h y)
termination_by x => SizeOf.sizeOf x
decreasing_by
  have := List.sizeOf_lt_of_mem hy
  simp at this ⊢
  omega
inductive SmValue : S70 → Prop
  | mk {x : S70} : ((Lit.int .i64 x.f0).wf = true) → ((Lit.int .i64 x.f1).wf = true) → ((x.f2.length ≤ 1048576 ∧ ∀ y ∈ x.f2, y.size ≤ 1048576)) → x.f3.length ≤ 1048576 → (∀ y ∈ x.f3, SmValue y) → SmValue x
theorem SmValue.p0 {x : S70} (h : SmValue x) : (Lit.int .i64 x.f0).wf = true := by cases h; assumption
theorem SmValue.p1 {x : S70} (h : SmValue x) : (Lit.int .i64 x.f1).wf = true := by cases h; assumption
theorem SmValue.p2 {x : S70} (h : SmValue x) : (x.f2.length ≤ 1048576 ∧ ∀ y ∈ x.f2, y.size ≤ 1048576) := by cases h; assumption
theorem SmValue.p3 {x : S70} (h : SmValue x) : x.f3.length ≤ 1048576 ∧ ∀ y ∈ x.f3, SmValue y := by cases h; constructor <;> assumption
theorem etaValue (x : S70) : (⟨x.f0, x.f1, x.f2, x.f3⟩ : S70) = x := by obtain ⟨_, _, _, _⟩ := x; rfl
theorem smValue_of : ∀ x : S67, W67 x → wtValue x ≤ 1048576 → SmValue (cvValue x) := by
  refine indValueL fun x ih hw hw2 => ?_
  have hb := hw2
  rw [wtValue_eq] at hb
  rw [cvValue_eq]
  exact SmValue.mk (hw.p0) (hw.p1) (⟨by (try dsimp only); unfold wts at hb; omega, fun y hy => by (try dsimp only at hy); have := sum_le_of_mem ByteArray.size hy; unfold wts szs at hb; omega⟩) (by (try dsimp only); rw [cvValueS_map, List.length_map]; omega) (fun z hz => by
      (try dsimp only at hz)
      rw [cvValueS_map] at hz
      obtain ⟨y, hy, rfl⟩ := List.mem_map.1 hz
      exact ih y hy (hw.p3.2 y hy) (by have := sum_le_of_mem wtValue hy; rw [← wtValueS_sum] at this; omega))
theorem szValueS_of (xs : List S67) (hx : xs.length ≤ maxLen) (h : ∀ y ∈ xs, ∀ left : Int, 0 ≤ left → left ≤ 1048576 → Ev (fun k => laws_szValue.f k (y.f0) (y.f1) (y.f2) (y.f3) left) (cut (wtValue y) left)) (left : Int) (h0 : 0 ≤ left) (hl : left ≤ 1048576) : Ev (fun k => laws_szValueS.f k xs left) (cut (xs.length + wtValueS xs) left) := by
  refine Ev.up ?_
  simp only [laws_szValueS.f]
  have hs := cut_sub (n := xs.length) h0 hl hx
  by_cases hc : cut xs.length left < 0
  · exact Ev.pos (hs.1.2 hc) (Ev.const (cut_add' hc).symm)
  · refine Ev.neg (fun h => hc (hs.1.1 h)) ?_
    rw [hs.2 (by omega)]
    have hl2 := cut_le (n := xs.length) h0
    have hw := sz_loop xs.length (fun k i left => laws_szValue.f k ((rd_T67 xs (i : Int)).f0) ((rd_T67 xs (i : Int)).f1) ((rd_T67 xs (i : Int)).f2) ((rd_T67 xs (i : Int)).f3) left) (fun k left i => laws_szValueS.l0 k xs left (i : Int)) (fun i => wtValue (xs.getD i z67)) (fun k left i hi => by
      simp only [laws_szValueS.l0]
      rw [if_pos (by omega), if_pos (by omega), w1 hi hx]) (fun k left => by simp only [laws_szValueS.l0]; rw [if_neg (by omega)]) (fun i left hi h0 hl => h _ (mem_getD xs z67 i hi) left h0 hl) xs.length 0 _ (by omega) (show 0 ≤ cut xs.length left by omega) (by omega)
    refine Ev.eq hw ?_
    rw [cut_add (by omega), sumF_list wtValue z67 xs xs.length 0 (by omega), wtValueS_sum]
    rfl
theorem szValue_ev : ∀ x : S67, W67 x → ∀ left : Int, 0 ≤ left → left ≤ 1048576 → Ev (fun k => laws_szValue.f k (x.f0) (x.f1) (x.f2) (x.f3) left) (cut (wtValue x) left) := by
  refine indValueL fun x ih hw left h0 hl => ?_
  refine Ev.up ?_
  simp only [laws_szValue.f]
  rw [wtValue_eq]
  have hb0 : (0 : Int) ≤ left ∧ left ≤ 1048576 := ⟨h0, hl⟩
  refine Ev.bind (szStringS_ev x.f2 hw.p2 _ hb0.1 hb0.2) ?_
  by_cases hc0 : cut (wts x.f2) left < 0
  · refine Ev.pos hc0 (Ev.const ?_)
    have hn : cut (wts x.f2) left < 0 := hc0
    have hn : cut (wts x.f2 + (x.f3.length + wtValueS x.f3)) left < 0 := by rw [cut_add' hn]; omega
    have hv := cut_neg.1 hn; unfold cut; rw [if_neg hv]
  refine Ev.neg hc0 ?_
  have hb1 : (0 : Int) ≤ cut (wts x.f2) left ∧ cut (wts x.f2) left ≤ 1048576 := ⟨by omega, by have := cut_le (n := wts x.f2) h0; omega⟩
  refine Ev.bind (szValueS_of x.f3 hw.p3.1 (fun y hy => ih y hy (hw.p3.2 y hy)) _ hb1.1 hb1.2) ?_
  by_cases hc1 : cut ((x.f3.length + wtValueS x.f3)) (cut (wts x.f2) left) < 0
  · refine Ev.pos hc1 (Ev.const ?_)
    have hn : cut (wts x.f2 + (x.f3.length + wtValueS x.f3)) left < 0 := by rw [← cut_add (by omega)]; exact hc1
    have hv := cut_neg.1 hn; unfold cut; rw [if_neg hv]
  refine Ev.neg hc1 ?_
  rw [cut_add (by omega)] at hc1 ⊢
  have hb2 : (0 : Int) ≤ cut (wts x.f2 + (x.f3.length + wtValueS x.f3)) left ∧ cut (wts x.f2 + (x.f3.length + wtValueS x.f3)) left ≤ 1048576 := ⟨by omega, by have := cut_le (n := wts x.f2 + (x.f3.length + wtValueS x.f3)) h0; omega⟩
  exact Ev.const rfl
theorem toValueS_of (xs : List S67) (hx : xs.length ≤ 1048576) (h : ∀ y ∈ xs, Ev (fun k => laws_toValue.f k (y.f0) (y.f1) (y.f2) (y.f3)) ((cvValue y).f0, (cvValue y).f1, (cvValue y).f2, (cvValue y).f3)) : Ev (fun k => laws_toValueS.f k xs) (cvValueS xs) := by
  refine Ev.up ?_
  simp only [laws_toValueS.f]
  refine Ev.pos (by omega) (Ev.pos (by omega) ?_)
  have hw := to_loop xs.length (fun k i => (laws_toValue.f k ((rd_T67 xs (i : Int)).f0) ((rd_T67 xs (i : Int)).f1) ((rd_T67 xs (i : Int)).f2) ((rd_T67 xs (i : Int)).f3)).map fun t => (⟨t.1, t.2.1, t.2.2.1, t.2.2.2⟩ : S70)) (fun k out i => laws_toValueS.l0 k xs out (i : Int)) (fun i => cvValue (xs.getD i z67)) (fun k out i hi hl => by
    simp only [laws_toValueS.l0]
    rw [if_pos (by omega), if_pos (by omega)]
    rcases laws_toValue.f k ((rd_T67 xs (i : Int)).f0) ((rd_T67 xs (i : Int)).f1) ((rd_T67 xs (i : Int)).f2) ((rd_T67 xs (i : Int)).f3) with _ | t
    · rfl
    · simp only [Option.map_some, Option.bind_some]
      rw [if_pos (by omega), w1' hi hx]
      rfl) (fun k out => by simp only [laws_toValueS.l0]; rw [if_neg (by omega)]) (fun i hi => Ev.eq (Ev.map (fun t => (⟨t.1, t.2.1, t.2.2.1, t.2.2.2⟩ : S70)) (h _ (mem_getD xs z67 i hi))) (etaValue _)) xs.length 0 (List.replicate ((xs.length : Int)).toNat z70) (by omega) (by simp)
  refine Ev.eq hw ?_
  rw [List.take_zero, List.nil_append, range_map_getElem cvValue z67 xs, cvValueS_map]
theorem toValue_ev : ∀ x : S67, wtValue x ≤ 1048576 → Ev (fun k => laws_toValue.f k (x.f0) (x.f1) (x.f2) (x.f3)) ((cvValue x).f0, (cvValue x).f1, (cvValue x).f2, (cvValue x).f3) := by
  refine indValueL fun x ih hw2 => ?_
  refine Ev.up ?_
  simp only [laws_toValue.f]
  have hb := hw2
  rw [wtValue_eq] at hb
  refine Ev.bind (toStringS_ev x.f2 (by unfold wts at hb; omega)) ?_
  refine Ev.bind (toValueS_of x.f3 (by omega) (fun y hy => ih y hy (by have := sum_le_of_mem wtValue hy; rw [← wtValueS_sum] at this; omega))) ?_
  exact Ev.const (by rw [cvValue_eq])
theorem eqValueS_of (xs : List S70) (hx : xs.length ≤ 1048576) (h : ∀ y ∈ xs, Ev (fun k => laws_eqValue.f k (y.f0) (y.f1) (y.f2) (y.f3) (y.f0) (y.f1) (y.f2) (y.f3)) true) : Ev (fun k => laws_eqValueS.f k xs xs) true := by
  refine Ev.up ?_
  simp only [laws_eqValueS.f]
  refine Ev.pos (by simp) ?_
  exact eq_loop xs.length (fun k i => laws_eqValue.f k ((rd_T70 xs (i : Int)).f0) ((rd_T70 xs (i : Int)).f1) ((rd_T70 xs (i : Int)).f2) ((rd_T70 xs (i : Int)).f3) ((rd_T70 xs (i : Int)).f0) ((rd_T70 xs (i : Int)).f1) ((rd_T70 xs (i : Int)).f2) ((rd_T70 xs (i : Int)).f3)) (fun k i => laws_eqValueS.l0 k xs xs (i : Int)) (fun k i hi => by
    simp only [laws_eqValueS.l0]
    rw [if_pos (by omega), if_pos (by omega), if_pos (by omega), w1' hi hx]) (fun k => by simp only [laws_eqValueS.l0]; rw [if_neg (by omega)]) (fun i hi => h _ (mem_getD xs z70 i hi)) xs.length 0 (by omega)
theorem eqValue_ev : ∀ x : S70, SmValue x → Ev (fun k => laws_eqValue.f k (x.f0) (x.f1) (x.f2) (x.f3) (x.f0) (x.f1) (x.f2) (x.f3)) true := by
  refine indValueI fun x ih hs => ?_
  refine Ev.up ?_
  simp only [laws_eqValue.f]
  refine Ev.pos (by simp) ?_
  refine Ev.pos (by simp) ?_
  refine Ev.bind (eqStringS_ev x.f2 hs.p2.1) (Ev.pos (by simp) ?_)
  refine Ev.bind (eqValueS_of x.f3 hs.p3.1 (fun y hy => ih y hy (hs.p3.2 y hy))) (Ev.pos (by simp) ?_)
  exact Ev.now _
end Go.Proofs.Ytcgdaeaaimkhdaa.Py
end
section
namespace Go.Proofs.Ytcgdaeaaimkhdaa.Py
open Go.RowKit Go.Proofs.YtcgdaeaaimkhdaaW.PrintWords Go.Proofs.Ytcgdaeaaimkhdaa.Pl
set_option linter.unusedVariables false
set_option linter.unusedSimpArgs false
def wtTableData : S142 → Nat
  | ⟨x0, x1⟩ => x0.size + (x1.length + wtValueS x1)
def wtTableDataS : List S142 → Nat
  | [] => 0
  | x :: r => wtTableData x + wtTableDataS r
def cvTableData : S142 → S107
  | ⟨x0, x1⟩ => ⟨x0, (cvValueS x1)⟩
def cvTableDataS : List S142 → List S107
  | [] => []
  | x :: r => cvTableData x :: cvTableDataS r
theorem wtTableDataS_sum (xs : List S142) : wtTableDataS xs = (xs.map wtTableData).sum := by
  induction xs with
  | nil => rfl
  | cons x r ih => simp [wtTableDataS, ih]
theorem cvTableDataS_map (xs : List S142) : cvTableDataS xs = xs.map cvTableData := by
  induction xs with
  | nil => rfl
  | cons x r ih => simp [cvTableDataS, ih]
theorem wtTableData_eq (x : S142) : wtTableData x = x.f0.size + (x.f1.length + wtValueS x.f1) := by cases x; simp only [wtTableData]
theorem cvTableData_eq (x : S142) : cvTableData x = ⟨x.f0, (cvValueS x.f1)⟩ := by cases x; simp only [cvTableData]
def SmTableData (x : S107) : Prop := (x.f0.size ≤ 1048576) ∧ ((x.f1.length ≤ 1048576 ∧ ∀ y ∈ x.f1, SmValue y))
theorem SmTableData.p0 {x : S107} (h : SmTableData x) : x.f0.size ≤ 1048576 := h.1
theorem SmTableData.p1 {x : S107} (h : SmTableData x) : (x.f1.length ≤ 1048576 ∧ ∀ y ∈ x.f1, SmValue y) := h.2
theorem etaTableData (x : S107) : (⟨x.f0, x.f1⟩ : S107) = x := by obtain ⟨_, _⟩ := x; rfl
theorem smTableData_of (x : S142) (hw : W142 x) (hw2 : wtTableData x ≤ 1048576) : SmTableData (cvTableData x) := by
  have hb := hw2
  rw [wtTableData_eq] at hb
  rw [cvTableData_eq]
  exact ⟨by (try dsimp only); omega, ⟨by (try dsimp only); rw [cvValueS_map, List.length_map]; omega, fun z hz => by
      (try dsimp only at hz)
      rw [cvValueS_map] at hz
      obtain ⟨y, hy, rfl⟩ := List.mem_map.1 hz
      exact smValue_of y (hw.2.2 y hy) (by have := sum_le_of_mem wtValue hy; rw [← wtValueS_sum] at this; omega)⟩⟩
theorem szTableDataS_of (xs : List S142) (hx : xs.length ≤ maxLen) (h : ∀ y ∈ xs, ∀ left : Int, 0 ≤ left → left ≤ 1048576 → Ev (fun k => laws_szTableData.f k (y.f0) (y.f1) left) (cut (wtTableData y) left)) (left : Int) (h0 : 0 ≤ left) (hl : left ≤ 1048576) : Ev (fun k => laws_szTableDataS.f k xs left) (cut (xs.length + wtTableDataS xs) left) := by
  simp only [laws_szTableDataS.f]
  have hs := cut_sub (n := xs.length) h0 hl hx
  by_cases hc : cut xs.length left < 0
  · exact Ev.pos (hs.1.2 hc) (Ev.const (cut_add' hc).symm)
  · refine Ev.neg (fun h => hc (hs.1.1 h)) ?_
    rw [hs.2 (by omega)]
    have hl2 := cut_le (n := xs.length) h0
    have hw := sz_loop xs.length (fun k i left => laws_szTableData.f k ((rd_T142 xs (i : Int)).f0) ((rd_T142 xs (i : Int)).f1) left) (fun k left i => laws_szTableDataS.l0 k xs left (i : Int)) (fun i => wtTableData (xs.getD i z142)) (fun k left i hi => by
      simp only [laws_szTableDataS.l0]
      rw [if_pos (by omega), if_pos (by omega), w1 hi hx]) (fun k left => by simp only [laws_szTableDataS.l0]; rw [if_neg (by omega)]) (fun i left hi h0 hl => h _ (mem_getD xs z142 i hi) left h0 hl) xs.length 0 _ (by omega) (show 0 ≤ cut xs.length left by omega) (by omega)
    refine Ev.eq hw ?_
    rw [cut_add (by omega), sumF_list wtTableData z142 xs xs.length 0 (by omega), wtTableDataS_sum]
    rfl
theorem szTableData_ev : ∀ x : S142, W142 x → ∀ left : Int, 0 ≤ left → left ≤ 1048576 → Ev (fun k => laws_szTableData.f k (x.f0) (x.f1) left) (cut (wtTableData x) left) := by
  intro x hw left h0 hl
  simp only [laws_szTableData.f]
  rw [wtTableData_eq]
  have hb0 : (0 : Int) ≤ left ∧ left ≤ 1048576 := ⟨h0, hl⟩
  have hs0 := cut_sub (n := x.f0.size) hb0.1 hb0.2 (hw.1)
  by_cases hc0 : cut (x.f0.size) left < 0
  · refine Ev.pos (hs0.1.2 hc0) (Ev.const ?_)
    have hn : cut (x.f0.size) left < 0 := hc0
    have hn : cut (x.f0.size + (x.f1.length + wtValueS x.f1)) left < 0 := by rw [cut_add' hn]; omega
    have hv := cut_neg.1 hn; unfold cut; rw [if_neg hv]
  refine Ev.neg (fun h => hc0 (hs0.1.1 h)) ?_
  rw [hs0.2 (by omega)]
  have hb1 : (0 : Int) ≤ cut (x.f0.size) left ∧ cut (x.f0.size) left ≤ 1048576 := ⟨by omega, by have := cut_le (n := x.f0.size) h0; omega⟩
  refine Ev.bind (szValueS_of x.f1 hw.2.1 (fun y hy => szValue_ev y (hw.2.2 y hy)) _ hb1.1 hb1.2) ?_
  by_cases hc1 : cut ((x.f1.length + wtValueS x.f1)) (cut (x.f0.size) left) < 0
  · refine Ev.pos hc1 (Ev.const ?_)
    have hn : cut (x.f0.size + (x.f1.length + wtValueS x.f1)) left < 0 := by rw [← cut_add (by omega)]; exact hc1
    have hv := cut_neg.1 hn; unfold cut; rw [if_neg hv]
  refine Ev.neg hc1 ?_
  rw [cut_add (by omega)] at hc1 ⊢
  have hb2 : (0 : Int) ≤ cut (x.f0.size + (x.f1.length + wtValueS x.f1)) left ∧ cut (x.f0.size + (x.f1.length + wtValueS x.f1)) left ≤ 1048576 := ⟨by omega, by have := cut_le (n := x.f0.size + (x.f1.length + wtValueS x.f1)) h0; omega⟩
  exact Ev.const rfl
theorem toTableDataS_of (xs : List S142) (hx : xs.length ≤ 1048576) (h : ∀ y ∈ xs, Ev (fun k => laws_toTableData.f k (y.f0) (y.f1)) ((cvTableData y).f0, (cvTableData y).f1)) : Ev (fun k => laws_toTableDataS.f k xs) (cvTableDataS xs) := by
  simp only [laws_toTableDataS.f]
  refine Ev.pos (by omega) (Ev.pos (by omega) ?_)
  have hw := to_loop xs.length (fun k i => (laws_toTableData.f k ((rd_T142 xs (i : Int)).f0) ((rd_T142 xs (i : Int)).f1)).map fun t => (⟨t.1, t.2⟩ : S107)) (fun k out i => laws_toTableDataS.l0 k xs out (i : Int)) (fun i => cvTableData (xs.getD i z142)) (fun k out i hi hl => by
    simp only [laws_toTableDataS.l0]
    rw [if_pos (by omega), if_pos (by omega)]
    rcases laws_toTableData.f k ((rd_T142 xs (i : Int)).f0) ((rd_T142 xs (i : Int)).f1) with _ | t
    · rfl
    · simp only [Option.map_some, Option.bind_some]
      rw [if_pos (by omega), w1' hi hx]
      rfl) (fun k out => by simp only [laws_toTableDataS.l0]; rw [if_neg (by omega)]) (fun i hi => Ev.eq (Ev.map (fun t => (⟨t.1, t.2⟩ : S107)) (h _ (mem_getD xs z142 i hi))) (etaTableData _)) xs.length 0 (List.replicate ((xs.length : Int)).toNat z107) (by omega) (by simp)
  refine Ev.eq hw ?_
  rw [List.take_zero, List.nil_append, range_map_getElem cvTableData z142 xs, cvTableDataS_map]
theorem toTableData_ev : ∀ x : S142, wtTableData x ≤ 1048576 → Ev (fun k => laws_toTableData.f k (x.f0) (x.f1)) ((cvTableData x).f0, (cvTableData x).f1) := by
  intro x hw2
  simp only [laws_toTableData.f]
  have hb := hw2
  rw [wtTableData_eq] at hb
  refine Ev.bind (toValueS_of x.f1 (by omega) (fun y hy => toValue_ev y (by have := sum_le_of_mem wtValue hy; rw [← wtValueS_sum] at this; omega))) ?_
  exact Ev.const (by rw [cvTableData_eq])
theorem eqTableDataS_of (xs : List S107) (hx : xs.length ≤ 1048576) (h : ∀ y ∈ xs, Ev (fun k => laws_eqTableData.f k (y.f0) (y.f1) (y.f0) (y.f1)) true) : Ev (fun k => laws_eqTableDataS.f k xs xs) true := by
  simp only [laws_eqTableDataS.f]
  refine Ev.pos (by simp) ?_
  exact eq_loop xs.length (fun k i => laws_eqTableData.f k ((rd_T107 xs (i : Int)).f0) ((rd_T107 xs (i : Int)).f1) ((rd_T107 xs (i : Int)).f0) ((rd_T107 xs (i : Int)).f1)) (fun k i => laws_eqTableDataS.l0 k xs xs (i : Int)) (fun k i hi => by
    simp only [laws_eqTableDataS.l0]
    rw [if_pos (by omega), if_pos (by omega), if_pos (by omega), w1' hi hx]) (fun k => by simp only [laws_eqTableDataS.l0]; rw [if_neg (by omega)]) (fun i hi => h _ (mem_getD xs z107 i hi)) xs.length 0 (by omega)
theorem eqTableData_ev : ∀ x : S107, SmTableData x → Ev (fun k => laws_eqTableData.f k (x.f0) (x.f1) (x.f0) (x.f1)) true := by
  intro x hs
  simp only [laws_eqTableData.f]
  refine Ev.pos (by simp) ?_
  refine Ev.bind (eqValueS_of x.f1 hs.p1.1 (fun y hy => eqValue_ev y (hs.p1.2 y hy))) (Ev.pos (by simp) ?_)
  exact Ev.now _
end Go.Proofs.Ytcgdaeaaimkhdaa.Py
end
section
namespace Go.Proofs.Ytcgdaeaaimkhdaa.Py
open Go.RowKit Go.Proofs.YtcgdaeaaimkhdaaW.PrintWords Go.Proofs.Ytcgdaeaaimkhdaa.Pl
set_option linter.unusedVariables false
set_option linter.unusedSimpArgs false
def wtDB : S57 → Nat
  | ⟨x0⟩ => (x0.length + wtTableDataS x0)
def cvDB : S57 → S50
  | ⟨x0⟩ => ⟨(cvTableDataS x0)⟩
theorem wtDB_eq (x : S57) : wtDB x = (x.f0.length + wtTableDataS x.f0) := by cases x; simp only [wtDB]
theorem cvDB_eq (x : S57) : cvDB x = ⟨(cvTableDataS x.f0)⟩ := by cases x; simp only [cvDB]
def SmDB (x : S50) : Prop := ((x.f0.length ≤ 1048576 ∧ ∀ y ∈ x.f0, SmTableData y))
theorem SmDB.p0 {x : S50} (h : SmDB x) : (x.f0.length ≤ 1048576 ∧ ∀ y ∈ x.f0, SmTableData y) := h
theorem smDB_of (x : S57) (hw : W57 x) (hw2 : wtDB x ≤ 1048576) : SmDB (cvDB x) := by
  have hb := hw2
  rw [wtDB_eq] at hb
  rw [cvDB_eq]
  exact ⟨by (try dsimp only); rw [cvTableDataS_map, List.length_map]; omega, fun z hz => by
      (try dsimp only at hz)
      rw [cvTableDataS_map] at hz
      obtain ⟨y, hy, rfl⟩ := List.mem_map.1 hz
      exact smTableData_of y (hw.2 y hy) (by have := sum_le_of_mem wtTableData hy; rw [← wtTableDataS_sum] at this; omega)⟩
theorem szDB_ev : ∀ x : S57, W57 x → ∀ left : Int, 0 ≤ left → left ≤ 1048576 → Ev (fun k => laws_szDB.f k (x.f0) left) (cut (wtDB x) left) := by
  intro x hw left h0 hl
  simp only [laws_szDB.f]
  rw [wtDB_eq]
  have hb0 : (0 : Int) ≤ left ∧ left ≤ 1048576 := ⟨h0, hl⟩
  refine Ev.bind (szTableDataS_of x.f0 hw.1 (fun y hy => szTableData_ev y (hw.2 y hy)) _ hb0.1 hb0.2) ?_
  by_cases hc0 : cut ((x.f0.length + wtTableDataS x.f0)) left < 0
  · refine Ev.pos hc0 (Ev.const ?_)
    have hn : cut ((x.f0.length + wtTableDataS x.f0)) left < 0 := hc0
    have hv := cut_neg.1 hn; unfold cut; rw [if_neg hv]
  refine Ev.neg hc0 ?_
  have hb1 : (0 : Int) ≤ cut ((x.f0.length + wtTableDataS x.f0)) left ∧ cut ((x.f0.length + wtTableDataS x.f0)) left ≤ 1048576 := ⟨by omega, by have := cut_le (n := (x.f0.length + wtTableDataS x.f0)) h0; omega⟩
  exact Ev.const rfl
theorem toDB_ev : ∀ x : S57, wtDB x ≤ 1048576 → Ev (fun k => laws_toDB.f k (x.f0)) (cvDB x).f0 := by
  intro x hw2
  simp only [laws_toDB.f]
  have hb := hw2
  rw [wtDB_eq] at hb
  refine Ev.bind (toTableDataS_of x.f0 (by omega) (fun y hy => toTableData_ev y (by have := sum_le_of_mem wtTableData hy; rw [← wtTableDataS_sum] at this; omega))) ?_
  exact Ev.const (by rw [cvDB_eq])
theorem eqDB_ev : ∀ x : S50, SmDB x → Ev (fun k => laws_eqDB.f k (x.f0) (x.f0)) true := by
  intro x hs
  simp only [laws_eqDB.f]
  refine Ev.bind (eqTableDataS_of x.f0 hs.p0.1 (fun y hy => eqTableData_ev y (hs.p0.2 y hy))) (Ev.pos (by simp) ?_)
  exact Ev.now _
end Go.Proofs.Ytcgdaeaaimkhdaa.Py
end
section
namespace Go.Proofs.Ytcgdaeaaimkhdaa.Py
open Go.RowKit Go.Proofs.YtcgdaeaaimkhdaaW.PrintWords Go.Proofs.YtcgdaeaaimkhdaaW.PrintLast Go.Proofs.Ytcgdaeaaimkhdaa.Pl Go.Proofs.Ytcgdaeaaimkhdaa.Ext
set_option linter.unusedVariables false
set_option linter.unusedSimpArgs false
theorem strOne (n : Int) : (strOfNums [n]).size = 1 := by simp [strOfNums]; rfl
theorem markLoop_ex : ∀ (m : Nat) (x : Int) (s : ByteArray), 0 ≤ x → x ≤ 4611686018427387904 → x < (10 : Int) ^ m → s.size + m ≤ 1000 → ∃ r, Ev (fun k => laws_markText.l0 k x s) r := by
  intro m
  induction m with
  | zero =>
    intro x s h0 hb h1 hs
    refine ⟨(⟨#[109]⟩ : ByteArray) ++ s, Ev.up ?_⟩
    simp only [laws_markText.l0]
    exact Ev.neg (by simp at h1; omega) (Ev.pos (by omega) (Ev.now _))
  | succ m ih =>
    intro x s h0 hb h1 hs
    by_cases hx : x > 0
    · have ht : Int.tdiv x 10 = x / 10 := Int.tdiv_eq_ediv_of_nonneg h0
      have hw : wrap64 (Int.tdiv x 10) = x / 10 := by rw [ht]; exact w64 (by omega) (by omega)
      have hl : x / 10 < (10 : Int) ^ m := by
        rw [Int.pow_succ] at h1
        omega
      obtain ⟨r, hr⟩ := ih (x / 10) (strOfNums [(wrap64 (48 + (Int.tmod x 10))) % 256] ++ s) (by omega) (by omega) hl (by rw [ByteArray.size_append, strOne]; omega)
      refine ⟨r, Ev.up ?_⟩
      simp only [laws_markText.l0]
      refine Ev.pos hx ?_
      refine Ev.none_bind (Ev.pos (by rw [strOne]; omega) ?_)
      rw [hw]
      exact hr
    · refine ⟨(⟨#[109]⟩ : ByteArray) ++ s, Ev.up ?_⟩
      simp only [laws_markText.l0]
      exact Ev.neg hx (Ev.pos (by omega) (Ev.now _))
theorem markText_ex (a : Int) (hb : a ≤ 4611686018427387904) : ∃ r, Ev (fun k => laws_markText.f k a) r := by
  by_cases h : a ≤ 0
  · refine ⟨(⟨#[109, 48]⟩ : ByteArray), ?_⟩
    simp only [laws_markText.f]
    exact Ev.pos h (Ev.now _)
  · obtain ⟨r, hr⟩ := markLoop_ex 19 a ⟨#[]⟩ (by omega) hb (by omega) (by decide)
    refine ⟨r, ?_⟩
    simp only [laws_markText.f]
    exact Ev.neg h hr
open Classical in
/-- The text that marks k. -/
noncomputable def mt (a : Int) : ByteArray := if h : ∃ r, Ev (fun k => laws_markText.f k a) r then h.choose else ⟨#[]⟩
theorem mt_ev (a : Int) (hb : a ≤ 4611686018427387904) : Ev (fun k => laws_markText.f k a) (mt a) := by
  have h := markText_ex a hb
  unfold mt
  rw [dif_pos h]
  exact h.choose_spec
noncomputable def mtS (a : Int) : Nat → List ByteArray
  | 0 => []
  | n + 1 => mt a :: mtS (a + 1) n
theorem mtS_length : ∀ (n : Nat) (a : Int), (mtS a n).length = n
  | 0, _ => rfl
  | n + 1, a => by simp [mtS, mtS_length n]
theorem markLoopS_ev (xs : List ByteArray) (hx : xs.length ≤ 1048576) : ∀ (m i : Nat) (out : List ByteArray) (a : Int), i + m = xs.length → out.length = xs.length → 0 ≤ a → a + m ≤ 4611686018427387904 →
    Ev (fun k => laws_markStringS.l0 k out a (i : Int)) (a + m, out.take i ++ mtS a m) := by
  intro m
  induction m with
  | zero =>
    intro i out a hi hl h0 hb
    refine Ev.up ?_
    simp only [laws_markStringS.l0]
    refine Ev.neg (by omega) (Ev.const ?_)
    rw [List.take_of_length_le (by omega)]
    simp [mtS]
  | succ m ih =>
    intro i out a hi hl h0 hb
    refine Ev.up ?_
    simp only [laws_markStringS.l0]
    refine Ev.pos (by omega) (Ev.bind (mt_ev a (by omega)) (Ev.pos (by omega) ?_))
    rw [w1' (show i < xs.length by omega) hx, show wrap64 (a + 1) = a + 1 from w64 (by omega) (by omega)]
    refine Ev.eq (ih (i + 1) (out.set i (mt a)) (a + 1) (by omega) (by simpa using hl) (by omega) (by omega)) ?_
    rw [List.take_succ_eq_append_getElem (by simp; omega)]
    simp only [List.getElem_set_self, List.take_set_of_le (Nat.le_refl i), mtS, List.append_assoc, List.singleton_append, Prod.mk.injEq, and_true]
    omega
theorem markStringS_ev (xs : List ByteArray) (hx : xs.length ≤ 1048576) (a : Int) (h0 : 0 ≤ a) (hb : a + xs.length ≤ 4611686018427387904) : Ev (fun k => laws_markStringS.f k xs a) (a + xs.length, mtS a xs.length) := by
  simp only [laws_markStringS.f]
  simpa using markLoopS_ev xs hx xs.length 0 xs a (by omega) rfl h0 hb
theorem mtS_getD (d : ByteArray) : ∀ (n i : Nat) (a : Int), i < n → (mtS a n).getD i d = mt (a + i)
  | 0, i, _, h => by omega
  | n + 1, 0, a, _ => by simp [mtS]
  | n + 1, i + 1, a, h => by
    have := mtS_getD d n i (a + 1) (by omega)
    simp only [mtS, List.getD_cons_succ, this]
    congr 1
    omega
theorem heldStringS_ev (n : Nat) (hn : n ≤ 1048576) (a : Int) (h0 : 0 ≤ a) (hb : a + n ≤ 4611686018427387904) : Ev (fun k => laws_heldStringS.f k (mtS a n) a) (a + n) := by
  suffices h : ∀ (m i : Nat), i + m = n → Ev (fun k => laws_heldStringS.l0 k (mtS a n) (a + i) (i : Int)) (a + n) by
    simp only [laws_heldStringS.f]
    simpa using h n 0 (by omega)
  intro m
  induction m with
  | zero =>
    intro i hi
    refine Ev.up ?_
    simp only [laws_heldStringS.l0, mtS_length]
    exact Ev.neg (by omega) (Ev.const (by omega))
  | succ m ih =>
    intro i hi
    refine Ev.up ?_
    simp only [laws_heldStringS.l0, mtS_length]
    refine Ev.pos (by omega) (Ev.pos (by omega) (Ev.bind (mt_ev (a + i) (by omega)) (Ev.pos ?_ ?_)))
    · rw [rdOf_str, mtS_getD _ n i a (by omega)]
    · rw [w1' (show i < n by omega) hn, show wrap64 (a + i + 1) = a + ((i + 1 : Nat) : Int) from by rw [w64 (by omega) (by omega)]; omega]
      exact ih (i + 1) (by omega)
/-- markStringS at a row that it is given to write. -/
theorem markStringS_own (xs : List ByteArray) (hx : xs.length ≤ 1048576) (a : Int) (h0 : 0 ≤ a) (hb : a + xs.length ≤ 4611686018427387904) (v : Value) (ok : Nat → Prop) (w0 w : World) (hB : Below w0.heap.size w0 w) (ho : Kd.R Kd.string 9 w w0.heap.size ok v xs) :
    Calls Try.prog 55 #[v, .int .i64 a] w fun e w' => e = .returned (.int .i64 (a + xs.length)) ∧ Kd.R Kd.string 9 w' w0.heap.size ok v (mtS a xs.length) ∧ Below w0.heap.size w0 w' ∧ Kept w w' ok := by
  obtain ⟨K, hK⟩ := markStringS_ev xs hx a h0 hb
  refine (laws_markStringS.calls K ok v xs a _ _ w0 w hB ho (hK K (Nat.le_refl K))).mono ?_
  rintro e w' ⟨he, hr, hb', hk⟩
  exact ⟨he, Kd.R_reok rfl hr ho.1, hb', hk⟩
/-- markText. -/
theorem markText_own (a : Int) (hb : a ≤ 4611686018427387904) (w : World) : Calls Try.prog 101 #[.int .i64 a] w fun e w' => e = .returned (.string (mt a)) ∧ Below w.heap.size w w' := by
  obtain ⟨K, hK⟩ := mt_ev a hb
  exact laws_markText.calls K a _ w (hK K (Nat.le_refl K))

end Go.Proofs.Ytcgdaeaaimkhdaa.Py
end
section
namespace Go.Proofs.Ytcgdaeaaimkhdaa.Py
open Go.RowKit Go.Proofs.YtcgdaeaaimkhdaaW.PrintWords Go.Proofs.YtcgdaeaaimkhdaaW.PrintLast Go.Proofs.Ytcgdaeaaimkhdaa.Pl Go.Proofs.Ytcgdaeaaimkhdaa.Ext
set_option linter.unusedVariables false
set_option linter.unusedSimpArgs false
mutual
def cnValue : S70 → Nat
  | ⟨x0, x1, x2, x3⟩ => 2 + x2.length + cnValueS x3
def cnValueS : List S70 → Nat
  | [] => 0
  | x :: r => cnValue x + cnValueS r
end
mutual
noncomputable def mkValue : S70 → Int → S70
  | ⟨x0, x1, x2, x3⟩, a => ⟨a, a + 1, mtS (a + 2) x2.length, mkValueS x3 (a + 2 + (x2.length : Nat))⟩
noncomputable def mkValueS : List S70 → Int → List S70
  | [], _ => []
  | x :: r, a => mkValue x a :: mkValueS r (a + cnValue x)
end
theorem cnValue_eq (x : S70) : cnValue x = 2 + x.f2.length + cnValueS x.f3 := by cases x; simp only [cnValue]
theorem mkValue_eq (x : S70) (a : Int) : mkValue x a = ⟨a, a + 1, mtS (a + 2) x.f2.length, mkValueS x.f3 (a + 2 + (x.f2.length : Nat))⟩ := by cases x; simp only [mkValue]
theorem mkValueS_length : ∀ (xs : List S70) (a : Int), (mkValueS xs a).length = xs.length
  | [], _ => rfl
  | x :: r, a => by simp [mkValueS, mkValueS_length r]
theorem cnValueS_append : ∀ xs ys : List S70, cnValueS (xs ++ ys) = cnValueS xs + cnValueS ys
  | [], ys => by simp [cnValueS]
  | x :: r, ys => by simp only [List.cons_append, cnValueS, cnValueS_append r ys]; omega
theorem mkValueS_append : ∀ (xs ys : List S70) (a : Int), mkValueS (xs ++ ys) a = mkValueS xs a ++ mkValueS ys (a + cnValueS xs)
  | [], ys, a => by simp [mkValueS, cnValueS]
  | x :: r, ys, a => by
    simp only [List.cons_append, mkValueS, mkValueS_append r ys, cnValueS]
    rw [show a + cnValue x + (cnValueS r : Int) = a + ((cnValue x + cnValueS r : Nat) : Int) by omega]
theorem cnValueS_take (xs : List S70) (i : Nat) (h : i < xs.length) : cnValueS (xs.take (i + 1)) = cnValueS (xs.take i) + cnValue (xs.getD i z70) := by
  rw [List.take_succ_eq_append_getElem h, cnValueS_append]
  simp [cnValueS, List.getD_eq_getElem?_getD, h]
theorem cnValueS_take_le (xs : List S70) (i : Nat) : cnValueS (xs.take i) ≤ cnValueS xs := by
  have := cnValueS_append (xs.take i) (xs.drop i)
  rw [List.take_append_drop] at this
  omega
theorem mkValueS_step (xs : List S70) (i : Nat) (h : i < xs.length) (a : Int) : (mkValueS (xs.take i) a ++ xs.drop i).set i (mkValue (xs.getD i z70) (a + cnValueS (xs.take i))) = mkValueS (xs.take (i + 1)) a ++ xs.drop (i + 1) := by
  have hl : (mkValueS (xs.take i) a).length = i := by rw [mkValueS_length, List.length_take]; omega
  rw [List.set_append, if_neg (by omega), hl, Nat.sub_self, List.drop_eq_getElem_cons h, List.set_cons_zero, List.take_succ_eq_append_getElem h, mkValueS_append]
  simp [mkValueS, List.getD_eq_getElem?_getD, h]
theorem mkValueS_at (xs : List S70) (i : Nat) (h : i < xs.length) (a : Int) : (mkValueS (xs.take i) a ++ xs.drop i).getD i z70 = xs.getD i z70 := by
  have hl : (mkValueS (xs.take i) a).length = i := by rw [mkValueS_length, List.length_take]; omega
  rw [List.getD_eq_getElem?_getD, List.getElem?_append_right (by omega), hl, Nat.sub_self, List.getElem?_drop, Nat.add_zero, List.getD_eq_getElem?_getD]
theorem mkValueS_len (xs : List S70) (i : Nat) (a : Int) : (mkValueS (xs.take i) a ++ xs.drop i).length = xs.length := by
  rw [List.length_append, mkValueS_length, List.length_take, List.length_drop]; omega
/-- What markValueS does with the row xs. -/
def MarksValueS (xs : List S70) : Prop :=
  ∀ (a : Int) (v : Value) (ok : Nat → Prop) (w0 w : World), 0 ≤ a → a + cnValueS xs ≤ 4611686018427387000 → Below w0.heap.size w0 w → Kd.S k70 70 w w0.heap.size ok v xs →
    Calls Try.prog 35 #[v, .int .i64 a] w fun e w' => e = .returned (.int .i64 (a + cnValueS xs)) ∧ Kd.S k70 70 w' w0.heap.size ok v (mkValueS xs a) ∧ Below w0.heap.size w0 w' ∧ Kept w w' ok
theorem MarksValueS.go {xs : List S70} (h : MarksValueS xs) (a : Int) (v : Value) (ok : Nat → Prop) (w0 w : World) (h0 : 0 ≤ a) (hb : a + cnValueS xs ≤ 4611686018427387000) (hB : Below w0.heap.size w0 w) (ho : Kd.S k70 70 w w0.heap.size ok v xs) :
    Calls Try.prog 35 #[v, .int .i64 a] w fun e w' => e = .returned (.int .i64 (a + cnValueS xs)) ∧ Kd.S k70 70 w' w0.heap.size ok v (mkValueS xs a) ∧ Below w0.heap.size w0 w' ∧ Kept w w' ok := h a v ok w0 w h0 hb hB ho
set_option maxHeartbeats 8000000 in
set_option maxRecDepth 100000 in
theorem marksValueS_step (xs : List S70) (hn : xs.length ≤ 1048576) (hx : ∀ y ∈ xs, y.f2.length ≤ 1048576 ∧ MarksValueS y.f3) : MarksValueS xs := by
  intro a v ok w0 w h0 hb hB ho
  have HO := Aside0.mk ho
  have HB := Aside0.mk hB
  have HK := Aside0.mk (Kept.refl w ok)
  have HX := Aside0.mk hx
  have HA := Aside0.mk (And.intro h0 (And.intro hb hn))
  clear ho hB hx h0 hb hn
  go_enter Try.func35, Try.ntmps35
  go_wp2
  go_loopg [1, 5] xs.length (fun kq v1 v5 w' => ∃ (b i : Int) (L : List S70), v1 = .int .i64 b ∧ v5 = .int .i64 i ∧ Aside0 (0 ≤ i ∧ i + kq = xs.length ∧ b = a + cnValueS (xs.take i.toNat)) ∧ Aside0 (L = mkValueS (xs.take i.toNat) a ++ xs.drop i.toNat) ∧ Aside0 (Kd.S k70 70 w' w0.heap.size ok v L) ∧ Aside0 (Below w0.heap.size w0 w') ∧ Aside0 (Kept w w' ok))
  case atStart => exact ⟨a, 0, xs, rfl, rfl, ⟨by omega, by omega, by simp [cnValueS]⟩, ⟨by simp [mkValueS]⟩, HO, HB, HK⟩
  case round =>
    clear HO HB HK
    obtain ⟨b, i, L, rfl, rfl, HI, HLE, HO, HB, HK⟩ := hrel
    obtain ⟨Ao, co, eo⟩ := Kd.S_slice HO.out
    have hlen : L.length = xs.length := by rw [HLE.out]; exact mkValueS_len xs i.toNat a
    rw [hlen] at eo
    have HL := Aside0.mk hlen
    clear hlen
    subst eo
    by_cases hlt : i < (xs.length : Int)
    · have hd : decide (i < (xs.length : Int)) = true := decide_eq_true hlt
      have hi0 : (0 ≤ i) = True := eq_true HI.out.1
      have hi1 : (i < (xs.length : Int)) = True := eq_true hlt
      have HLT := Aside0.mk (show i.toNat < xs.length by have := HI.out.1; omega)
      obtain ⟨g, cap, eg, gb, gl, HG⟩ := Kd.S_form HO.out (by rw [HL.out]; have := HLT.out; omega)
      rw [HL.out] at eg
      injection eg with ea _ ec
      subst ea ec
      have GB := Aside0.mk gb
      clear gb gl HG
      obtain ⟨oki, c, hcl, hM, hcc, hfr, hoki, hH⟩ := Kd.S_elem HO.out z70 i HI.out.1 (by exact hlt)
      rw [HLE.out, mkValueS_at xs i.toNat HLT.out a] at hM
      generalize hxe : xs.getD i.toNat z70 = x at hM
      have HXE := Aside0.mk hxe
      have hxm : x ∈ xs := by rw [← hxe]; exact mem_getD xs z70 _ HLT.out
      have HXL := Aside0.mk (HX.out x hxm)
      clear hxe hxm
      obtain ⟨v2, v3, o2, o3, rfl, s2, s3, d12, g2, g3⟩ := k70_openA hM
      have HH := Aside0.mk hH
      have H2 := Aside0.mk g2
      have HS2 := Aside0.mk s2
      have H3 := Aside0.mk g3
      have HS3 := Aside0.mk s3
      have HD := Aside0.mk d12
      have HOK := Aside0.mk (show ok g from (Kd.S_R HO.out).1 g rfl)
      have HOI := Aside0.mk hoki
      have HLT2 := Aside0.mk hlt
      have HE := Aside0.mk (show b + cnValue x ≤ a + cnValueS xs ∧ b = a + cnValueS (xs.take i.toNat) ∧ 0 ≤ b ∧ 0 ≤ a ∧ a + cnValueS xs ≤ 4611686018427387000 by
        have e1 := cnValueS_take xs i.toNat HLT.out
        have e2 := cnValueS_take_le xs (i.toNat + 1)
        rw [HXE.out] at e1
        have := HI.out; have := HA.out
        refine ⟨by omega, by omega, by omega, by omega, by omega⟩)
      have HW1 := Aside0.mk (show wrap64 (b + 1) = b + 1 by have := HE.out; have := cnValue_eq x; unfold wrap64; omega)
      have HW2 := Aside0.mk (show wrap64 (wrap64 (b + 1) + 1) = b + 2 by rw [HW1.out]; have := HE.out; have := cnValue_eq x; unfold wrap64; omega)
      have HV2 := Aside0.mk (show wrap64 (b + 1 + 1) = b + 2 by have := HE.out; have := cnValue_eq x; unfold wrap64; omega)
      clear hcl hM hcc hfr hoki hH hlt HO s2 g2 s3 g3 d12
      have hx : wr.cell? ⟨g, i.toNat * 4, none⟩ = some (.int .i64 x.f0) := (Ow.H_cells HH.out HI.out.1 HLT2.out).1 0 _ rfl
      have hf : wr.frozen? ⟨g, i.toNat * 4, none⟩ = false := (Ow.H_cells HH.out HI.out.1 HLT2.out).2 0
      go_wp2_with (first
        | ((with_reducible refine gate_store (t := 3) (p := 16) rfl ?_)
           refine store_event (t := 3) (p := 16) (v := ?vo_w3) (w1 := (wr.setCell ⟨g, i.toNat * 4, none⟩ (.int .i64 b))) ?hg ?ho ?hn ?hr ?_; (case ho => rfl); (case hg => rfl); (case hn => rfl); (case hr => first | (go_simp; done) | (go_simp; rfl)); intro w3 hw
           have hseg := Kd.H_seg HH.out HI.out.1 HLT2.out (seg := [.int .i64 b]) (j := 0) (show 0 + 1 ≤ 4 by decide) (fun q hq => by rw [List.mem_singleton.1 hq]; rfl)
           have hg : wr.grownBy w3 (some g) := by rw [hw]; exact hseg.2
           have n0 := (show Kd.H k70 70 w3 w0.heap.size ok (.slice (some ⟨g, 0, none⟩) xs.length co) L i oki [.int .i64 b, .int .i64 x.f1, v2, v3] by rw [hw]; exact hseg.1)
           have n1 := Kd.R_grown H2.out hg (fun k hk e => (HOI.out k (HS2.out k hk)).2 (by injection e))
           have n2 := Kd.S_grown H3.out hg (fun k hk e => (HOI.out k (HS3.out k hk)).2 (by injection e))
           have n3 := (show Below w0.heap.size w0 w3 by rw [hw]; exact below_set HB.out GB.out)
           have n4 := Kept.of_grown hg HK.out (fun k e => .inl (by injection e with e; exact e ▸ HOK.out))
           clear HH H2 H3 HB HK
           (try clear hx)
           (try clear hf)
           have HH := Aside0.mk n0; have H2 := Aside0.mk n1; have H3 := Aside0.mk n2; have HB := Aside0.mk n3; have HK := Aside0.mk n4
           clear n0 n1 n2 n3 n4
           clear hw hg hseg
           have hx : w3.cell? ⟨g, i.toNat * 4 + 1, none⟩ = some (.int .i64 x.f1) := (Ow.H_cells HH.out HI.out.1 HLT2.out).1 1 _ rfl
           have hf : w3.frozen? ⟨g, i.toNat * 4 + 1, none⟩ = false := (Ow.H_cells HH.out HI.out.1 HLT2.out).2 1)
        | ((with_reducible refine gate_store (t := 3) (p := 23) rfl ?_)
           refine store_event (t := 3) (p := 23) (v := ?vo_w4) (w1 := (w3.setCell ⟨g, i.toNat * 4 + 1, none⟩ (.int .i64 (wrap64 (b + 1))))) ?hg ?ho ?hn ?hr ?_; (case ho => rfl); (case hg => rfl); (case hn => rfl); (case hr => first | (go_simp; done) | (go_simp; rfl)); intro w4 hw
           have hseg := Kd.H_seg HH.out HI.out.1 HLT2.out (seg := [.int .i64 (wrap64 (b + 1))]) (j := 1) (show 1 + 1 ≤ 4 by decide) (fun q hq => by rw [List.mem_singleton.1 hq]; rfl)
           have hg : w3.grownBy w4 (some g) := by rw [hw]; exact hseg.2
           have n0 := (show Kd.H k70 70 w4 w0.heap.size ok (.slice (some ⟨g, 0, none⟩) xs.length co) L i oki [.int .i64 b, .int .i64 (wrap64 (b + 1)), v2, v3] by rw [hw]; exact hseg.1)
           have n1 := Kd.R_grown H2.out hg (fun k hk e => (HOI.out k (HS2.out k hk)).2 (by injection e))
           have n2 := Kd.S_grown H3.out hg (fun k hk e => (HOI.out k (HS3.out k hk)).2 (by injection e))
           have n3 := (show Below w0.heap.size w0 w4 by rw [hw]; exact below_set HB.out GB.out)
           have n4 := Kept.of_grown hg HK.out (fun k e => .inl (by injection e with e; exact e ▸ HOK.out))
           clear HH H2 H3 HB HK
           (try clear hx)
           (try clear hf)
           have HH := Aside0.mk n0; have H2 := Aside0.mk n1; have H3 := Aside0.mk n2; have HB := Aside0.mk n3; have HK := Aside0.mk n4
           clear n0 n1 n2 n3 n4
           clear hw hg hseg
           have hx : w4.cell? ⟨g, i.toNat * 4 + 2, none⟩ = some (v2) := (Ow.H_cells HH.out HI.out.1 HLT2.out).1 2 _ rfl)
        | ((with_reducible refine gate_callee (f := 55) rfl ?_)
           refine goesL_ (some 32) rfl rfl Try.func55 (by kernel_rfl) rfl #[v2, .int .i64 (wrap64 (wrap64 (b + 1) + 1))] rfl (by (try simp only [List.map_toArray, List.map_cons, List.map_nil]); first | done | rfl) ?_
           (with_reducible refine (markStringS_own x.f2 HXL.out.1 (wrap64 (wrap64 (b + 1) + 1)) (by rw [HW2.out]; have := HE.out; omega) (by rw [HW2.out]; have := HE.out; have := cnValue_eq x; omega) v2 o2 w0 _ HB.out H2.out).mono ?_)
           rintro e w5 ⟨rfl, hr, hb, hk⟩
           refine ⟨_, rfl, ?_⟩
           have n0 := Kd.H_kept HH.out hk (fun k hk hn h1 => hn (HS2.out k h1))
           have n1 := hr
           have n2 := Kd.S_kept H3.out hk (fun k hk h1 => HD.out k h1 hk)
           have n3 := hb
           have n4 := HK.out.then_ hk (fun k h1 => .inl (HOI.out k (HS2.out k h1)).1)
           clear HH H2 H3 HB HK
           (try clear hx)
           (try clear hf)
           have HH := Aside0.mk n0; have H2 := Aside0.mk n1; have H3 := Aside0.mk n2; have HB := Aside0.mk n3; have HK := Aside0.mk n4
           clear n0 n1 n2 n3 n4
           clear hr hb hk
           have hx : w5.cell? ⟨g, i.toNat * 4 + 3, none⟩ = some (v3) := (Ow.H_cells HH.out HI.out.1 HLT2.out).1 3 _ rfl)
        | ((with_reducible refine gate_callee (f := 35) rfl ?_)
           refine goesL_ (some 39) rfl rfl Try.func35 (by kernel_rfl) rfl #[v3, .int .i64 (wrap64 (wrap64 (b + 1) + 1) + (x.f2.length : Nat))] rfl (by (try simp only [List.map_toArray, List.map_cons, List.map_nil]); first | done | rfl) ?_
           (with_reducible refine (MarksValueS.go HXL.out.2 (wrap64 (wrap64 (b + 1) + 1) + (x.f2.length : Nat)) v3 o3 w0 _ (by rw [HW2.out]; have := HE.out; omega) (by rw [HW2.out]; have := HE.out; have := cnValue_eq x; omega) HB.out H3.out).mono ?_)
           rintro e w6 ⟨rfl, hr, hb, hk⟩
           refine ⟨_, rfl, ?_⟩
           have n0 := Kd.H_kept HH.out hk (fun k hk hn h1 => hn (HS3.out k h1))
           have n1 := Kd.R_kept H2.out hk (fun k hk h1 => HD.out k hk h1)
           have n2 := hr
           have n3 := hb
           have n4 := HK.out.then_ hk (fun k h1 => .inl (HOI.out k (HS3.out k h1)).1)
           clear HH H2 H3 HB HK
           (try clear hx)
           (try clear hf)
           have HH := Aside0.mk n0; have H2 := Aside0.mk n1; have H3 := Aside0.mk n2; have HB := Aside0.mk n3; have HK := Aside0.mk n4
           clear n0 n1 n2 n3 n4
           clear hr hb hk))
      obtain ⟨k1, rfl⟩ : ∃ m, gk = m + 1 := ⟨gk - 1, by have := HI.out; have := HLT2.out; omega⟩
      go_roundg k1
      case measure => omega
      case rel =>
        have hM2 := k70_mkA _ w0.heap.size oki (⟨b, wrap64 (b + 1), mtS (wrap64 (wrap64 (b + 1) + 1)) x.f2.length, mkValueS x.f3 (wrap64 (wrap64 (b + 1) + 1) + (x.f2.length : Nat))⟩ : S70) (Kd.R_mono H2.out HS2.out) (Kd.S_mono H3.out (fun k hk => ⟨HS3.out k hk, fun e => HD.out k (H2.out.1 k e.symm) hk⟩))
        have hS := Kd.H_back HH.out hM2 (fun _ hk => hk)
        have hz : i.toNat + 1 = (wrap64 (i + 1)).toNat := by have := HI.out; have := HLT2.out; have := HA.out; unfold wrap64; omega
        have hw1 : wrap64 (i + 1) = i + 1 := by have := HI.out; have := HLT2.out; have := HA.out; unfold wrap64; omega
        refine ⟨wrap64 (wrap64 (b + 1) + 1) + (x.f2.length : Nat) + (cnValueS x.f3 : Nat), wrap64 (i + 1), _, rfl, rfl, ⟨by omega, ?_, ?_⟩, ⟨?_⟩, ⟨hS⟩, HB, HK⟩
        · have := HI.out; have := HLT2.out; omega
        · rw [← hz, cnValueS_take xs i.toNat HLT.out, HXE.out, cnValue_eq]; (try simp only [HW1.out, HV2.out]); have := HE.out; omega
        · rw [← hz, ← mkValueS_step xs i.toNat HLT.out a, HXE.out, mkValue_eq, ← HE.out.2.1, HLE.out]; (try simp only [HW1.out, HV2.out])
    · have hd : decide (i < (xs.length : Int)) = false := decide_eq_false hlt
      have HT := Aside0.mk (show i.toNat = xs.length by have := HI.out; omega)
      clear hlt
      go_wp2
      go_ret
      refine ⟨?_, ?_, HB.out, HK.out⟩
      · rw [HI.out.2.2, HT.out, List.take_of_length_le (Nat.le_refl _)]
        rfl
      · have := HO.out
        rw [HLE.out, HT.out, List.take_of_length_le (Nat.le_refl _), List.drop_of_length_le (Nat.le_refl _), List.append_nil] at this
        exact this
/-- All rows inside are short. -/
inductive LnValue : S70 → Prop
  | mk {x : S70} : x.f2.length ≤ 1048576 → x.f3.length ≤ 1048576 → (∀ y ∈ x.f3, LnValue y) → LnValue x
theorem LnValue.all {x : S70} (h : LnValue x) : x.f2.length ≤ 1048576 ∧ x.f3.length ≤ 1048576 ∧ ∀ y ∈ x.f3, LnValue y := by cases h; exact ⟨by assumption, by assumption, by assumption⟩
theorem marksValue_in : ∀ x : S70, LnValue x → MarksValueS x.f3 := by
  refine indValueI fun x ih hx => ?_
  exact marksValueS_step x.f3 hx.all.2.1 (fun y hy => ⟨(hx.all.2.2 y hy).all.1, ih y hy (hx.all.2.2 y hy)⟩)
theorem marksValueS (xs : List S70) (hn : xs.length ≤ 1048576) (hx : ∀ y ∈ xs, LnValue y) : MarksValueS xs := marksValueS_step xs hn (fun y hy => ⟨(hx y hy).all.1, marksValue_in y (hx y hy)⟩)
theorem lnValue_of : ∀ x : S70, SmValue x → LnValue x := by
  refine indValueI fun x ih hx => ?_
  exact LnValue.mk hx.p2.1 hx.p3.1 (fun y hy => ih y hy (hx.p3.2 y hy))
theorem cnValue_cv : ∀ x : S67, cnValue (cvValue x) ≤ 2 * (wtValue x + 1) := by
  refine indValueL fun x ih => ?_
  rw [cnValue_eq, cvValue_eq, wtValue_eq]
  have hL : ∀ l : List S67, (∀ y ∈ l, cnValue (cvValue y) ≤ 2 * (wtValue y + 1)) → cnValueS (l.map cvValue) ≤ 2 * (l.length + (l.map wtValue).sum) := by
    intro l
    induction l with
    | nil => intro _; simp [cnValueS]
    | cons y r ih2 =>
      intro h
      have h1 := h y (List.mem_cons_self ..)
      have h2 := ih2 (fun z hz => h z (List.mem_cons_of_mem _ hz))
      simp only [List.map_cons, cnValueS, List.sum_cons, List.length_cons] at h2 ⊢
      omega
  have := hL x.f3 ih
  (try dsimp only)
  rw [cvValueS_map, wtValueS_sum]
  unfold wts
  omega
theorem mkValueS_getD : ∀ (xs : List S70) (i : Nat) (a : Int), i < xs.length → (mkValueS xs a).getD i z70 = mkValue (xs.getD i z70) (a + cnValueS (xs.take i))
  | [], i, _, h => absurd h (by simp)
  | x :: r, 0, a, _ => by simp [mkValueS, cnValueS]
  | x :: r, i + 1, a, h => by
    have := mkValueS_getD r i (a + cnValue x) (by simpa using h)
    simp only [mkValueS, List.getD_cons_succ, List.take_succ_cons, cnValueS, this]
    congr 1
    omega
theorem heldValueS_step (xs : List S70) (hn : xs.length ≤ 1048576) (hx : ∀ y ∈ xs, y.f2.length ≤ 1048576 ∧ (∀ a : Int, 0 ≤ a → a + cnValueS y.f3 ≤ 4611686018427387000 → Ev (fun k => laws_heldValueS.f k (mkValueS y.f3 a) a) (a + cnValueS y.f3))) (a : Int) (h0 : 0 ≤ a) (hb : a + cnValueS xs ≤ 4611686018427387000) : Ev (fun k => laws_heldValueS.f k (mkValueS xs a) a) (a + cnValueS xs) := by
  suffices h : ∀ m i, i + m = xs.length → Ev (fun k => laws_heldValueS.l0 k (mkValueS xs a) (a + cnValueS (xs.take i)) (i : Int)) (a + cnValueS xs) by
    have := h xs.length 0 (by omega)
    first
    | (refine Ev.up ?_; simp only [laws_heldValueS.f]; simpa [cnValueS] using this)
    | (simp only [laws_heldValueS.f]; simpa [cnValueS] using this)
  intro m
  induction m with
  | zero =>
    intro i hi
    refine Ev.up ?_
    simp only [laws_heldValueS.l0, mkValueS_length]
    refine Ev.neg (by omega) (Ev.const ?_)
    rw [List.take_of_length_le (by omega)]
  | succ m ih =>
    intro i hi
    have hlt : i < xs.length := by omega
    have e1 := cnValueS_take xs i hlt
    have e2 := cnValueS_take_le xs (i + 1)
    have hg : rd_T70 (mkValueS xs a) (i : Int) = mkValue (xs.getD i z70) (a + cnValueS (xs.take i)) := mkValueS_getD xs i a hlt
    have hh := hx _ (mem_getD xs z70 i hlt)
    have ih2 := ih (i + 1) (by omega)
    rw [e1] at ih2
    generalize xs.getD i z70 = y at hg hh e1 ih2
    have e3 := cnValue_eq y
    generalize hbb : a + (cnValueS (xs.take i) : Int) = b at hg
    have hbe : b + cnValue y ≤ a + cnValueS xs ∧ 0 ≤ b := ⟨by omega, by omega⟩
    refine Ev.up ?_
    simp only [laws_heldValueS.l0, mkValueS_length, hg, mkValue_eq]
    refine Ev.pos (by omega) (Ev.pos (by omega) ?_)
    have v1 : wrap64 (b + 1) = b + 1 := (w64 (by omega) (by omega)).trans (by omega)
    have v2 : wrap64 ((b + 1) + 1) = b + 2 := (w64 (by omega) (by omega)).trans (by omega)
    simp only [v1, v2]
    refine Ev.pos (by first | exact trivial | rfl) ?_
    refine Ev.pos (by first | exact trivial | rfl) ?_
    refine Ev.bind (heldStringS_ev y.f2.length hh.1 (b + 2) (by omega) (by omega)) (Ev.neg (by omega) ?_)
    refine Ev.bind (hh.2 ((b + 2) + (y.f2.length : Nat)) (by omega) (by omega)) (Ev.neg (by omega) ?_)
    rw [w1' hlt hn]
    rw [show b + 2 + (y.f2.length : Nat) + (cnValueS y.f3 : Nat) = a + ((cnValueS (xs.take i) + cnValue y : Nat) : Int) by omega]
    exact ih2
theorem heldValue_in : ∀ x : S70, LnValue x → ∀ a : Int, 0 ≤ a → a + cnValueS x.f3 ≤ 4611686018427387000 → Ev (fun k => laws_heldValueS.f k (mkValueS x.f3 a) a) (a + cnValueS x.f3) := by
  refine indValueI fun x ih hx => ?_
  exact heldValueS_step x.f3 hx.all.2.1 (fun y hy => ⟨(hx.all.2.2 y hy).all.1, ih y hy (hx.all.2.2 y hy)⟩)
theorem heldValueS_ev (xs : List S70) (hn : xs.length ≤ 1048576) (hx : ∀ y ∈ xs, LnValue y) (a : Int) (h0 : 0 ≤ a) (hb : a + cnValueS xs ≤ 4611686018427387000) : Ev (fun k => laws_heldValueS.f k (mkValueS xs a) a) (a + cnValueS xs) := heldValueS_step xs hn (fun y hy => ⟨(hx y hy).all.1, heldValue_in y (hx y hy)⟩) a h0 hb
end Go.Proofs.Ytcgdaeaaimkhdaa.Py
end
section
namespace Go.Proofs.Ytcgdaeaaimkhdaa.Py
open Go.RowKit Go.Proofs.YtcgdaeaaimkhdaaW.PrintWords Go.Proofs.YtcgdaeaaimkhdaaW.PrintLast Go.Proofs.Ytcgdaeaaimkhdaa.Pl Go.Proofs.Ytcgdaeaaimkhdaa.Ext
set_option linter.unusedVariables false
set_option linter.unusedSimpArgs false
def cnTableData (x : S107) : Nat := 1 + cnValueS x.f1
noncomputable def mkTableData (x : S107) (a : Int) : S107 := ⟨mt (a), mkValueS x.f1 (a + 1)⟩
def cnTableDataS : List S107 → Nat
  | [] => 0
  | x :: r => cnTableData x + cnTableDataS r
noncomputable def mkTableDataS : List S107 → Int → List S107
  | [], _ => []
  | x :: r, a => mkTableData x a :: mkTableDataS r (a + cnTableData x)
theorem cnTableData_eq (x : S107) : cnTableData x = 1 + cnValueS x.f1 := rfl
theorem mkTableData_eq (x : S107) (a : Int) : mkTableData x a = ⟨mt (a), mkValueS x.f1 (a + 1)⟩ := rfl
theorem mkTableDataS_length : ∀ (xs : List S107) (a : Int), (mkTableDataS xs a).length = xs.length
  | [], _ => rfl
  | x :: r, a => by simp [mkTableDataS, mkTableDataS_length r]
theorem cnTableDataS_append : ∀ xs ys : List S107, cnTableDataS (xs ++ ys) = cnTableDataS xs + cnTableDataS ys
  | [], ys => by simp [cnTableDataS]
  | x :: r, ys => by simp only [List.cons_append, cnTableDataS, cnTableDataS_append r ys]; omega
theorem mkTableDataS_append : ∀ (xs ys : List S107) (a : Int), mkTableDataS (xs ++ ys) a = mkTableDataS xs a ++ mkTableDataS ys (a + cnTableDataS xs)
  | [], ys, a => by simp [mkTableDataS, cnTableDataS]
  | x :: r, ys, a => by
    simp only [List.cons_append, mkTableDataS, mkTableDataS_append r ys, cnTableDataS]
    rw [show a + cnTableData x + (cnTableDataS r : Int) = a + ((cnTableData x + cnTableDataS r : Nat) : Int) by omega]
theorem cnTableDataS_take (xs : List S107) (i : Nat) (h : i < xs.length) : cnTableDataS (xs.take (i + 1)) = cnTableDataS (xs.take i) + cnTableData (xs.getD i z107) := by
  rw [List.take_succ_eq_append_getElem h, cnTableDataS_append]
  simp [cnTableDataS, List.getD_eq_getElem?_getD, h]
theorem cnTableDataS_take_le (xs : List S107) (i : Nat) : cnTableDataS (xs.take i) ≤ cnTableDataS xs := by
  have := cnTableDataS_append (xs.take i) (xs.drop i)
  rw [List.take_append_drop] at this
  omega
theorem mkTableDataS_step (xs : List S107) (i : Nat) (h : i < xs.length) (a : Int) : (mkTableDataS (xs.take i) a ++ xs.drop i).set i (mkTableData (xs.getD i z107) (a + cnTableDataS (xs.take i))) = mkTableDataS (xs.take (i + 1)) a ++ xs.drop (i + 1) := by
  have hl : (mkTableDataS (xs.take i) a).length = i := by rw [mkTableDataS_length, List.length_take]; omega
  rw [List.set_append, if_neg (by omega), hl, Nat.sub_self, List.drop_eq_getElem_cons h, List.set_cons_zero, List.take_succ_eq_append_getElem h, mkTableDataS_append]
  simp [mkTableDataS, List.getD_eq_getElem?_getD, h]
theorem mkTableDataS_at (xs : List S107) (i : Nat) (h : i < xs.length) (a : Int) : (mkTableDataS (xs.take i) a ++ xs.drop i).getD i z107 = xs.getD i z107 := by
  have hl : (mkTableDataS (xs.take i) a).length = i := by rw [mkTableDataS_length, List.length_take]; omega
  rw [List.getD_eq_getElem?_getD, List.getElem?_append_right (by omega), hl, Nat.sub_self, List.getElem?_drop, Nat.add_zero, List.getD_eq_getElem?_getD]
theorem mkTableDataS_len (xs : List S107) (i : Nat) (a : Int) : (mkTableDataS (xs.take i) a ++ xs.drop i).length = xs.length := by
  rw [List.length_append, mkTableDataS_length, List.length_take, List.length_drop]; omega
/-- What markTableDataS does with the row xs. -/
def MarksTableDataS (xs : List S107) : Prop :=
  ∀ (a : Int) (v : Value) (ok : Nat → Prop) (w0 w : World), 0 ≤ a → a + cnTableDataS xs ≤ 4611686018427387000 → Below w0.heap.size w0 w → Kd.S k107 107 w w0.heap.size ok v xs →
    Calls Try.prog 77 #[v, .int .i64 a] w fun e w' => e = .returned (.int .i64 (a + cnTableDataS xs)) ∧ Kd.S k107 107 w' w0.heap.size ok v (mkTableDataS xs a) ∧ Below w0.heap.size w0 w' ∧ Kept w w' ok
theorem MarksTableDataS.go {xs : List S107} (h : MarksTableDataS xs) (a : Int) (v : Value) (ok : Nat → Prop) (w0 w : World) (h0 : 0 ≤ a) (hb : a + cnTableDataS xs ≤ 4611686018427387000) (hB : Below w0.heap.size w0 w) (ho : Kd.S k107 107 w w0.heap.size ok v xs) :
    Calls Try.prog 77 #[v, .int .i64 a] w fun e w' => e = .returned (.int .i64 (a + cnTableDataS xs)) ∧ Kd.S k107 107 w' w0.heap.size ok v (mkTableDataS xs a) ∧ Below w0.heap.size w0 w' ∧ Kept w w' ok := h a v ok w0 w h0 hb hB ho
set_option maxHeartbeats 8000000 in
set_option maxRecDepth 100000 in
theorem marksTableDataS_step (xs : List S107) (hn : xs.length ≤ 1048576) (hx : ∀ y ∈ xs, MarksValueS y.f1) : MarksTableDataS xs := by
  intro a v ok w0 w h0 hb hB ho
  have HO := Aside0.mk ho
  have HB := Aside0.mk hB
  have HK := Aside0.mk (Kept.refl w ok)
  have HX := Aside0.mk hx
  have HA := Aside0.mk (And.intro h0 (And.intro hb hn))
  clear ho hB hx h0 hb hn
  go_enter Try.func77, Try.ntmps77
  go_wp2
  go_loopg [1, 5] xs.length (fun kq v1 v5 w' => ∃ (b i : Int) (L : List S107), v1 = .int .i64 b ∧ v5 = .int .i64 i ∧ Aside0 (0 ≤ i ∧ i + kq = xs.length ∧ b = a + cnTableDataS (xs.take i.toNat)) ∧ Aside0 (L = mkTableDataS (xs.take i.toNat) a ++ xs.drop i.toNat) ∧ Aside0 (Kd.S k107 107 w' w0.heap.size ok v L) ∧ Aside0 (Below w0.heap.size w0 w') ∧ Aside0 (Kept w w' ok))
  case atStart => exact ⟨a, 0, xs, rfl, rfl, ⟨by omega, by omega, by simp [cnTableDataS]⟩, ⟨by simp [mkTableDataS]⟩, HO, HB, HK⟩
  case round =>
    clear HO HB HK
    obtain ⟨b, i, L, rfl, rfl, HI, HLE, HO, HB, HK⟩ := hrel
    obtain ⟨Ao, co, eo⟩ := Kd.S_slice HO.out
    have hlen : L.length = xs.length := by rw [HLE.out]; exact mkTableDataS_len xs i.toNat a
    rw [hlen] at eo
    have HL := Aside0.mk hlen
    clear hlen
    subst eo
    by_cases hlt : i < (xs.length : Int)
    · have hd : decide (i < (xs.length : Int)) = true := decide_eq_true hlt
      have hi0 : (0 ≤ i) = True := eq_true HI.out.1
      have hi1 : (i < (xs.length : Int)) = True := eq_true hlt
      have HLT := Aside0.mk (show i.toNat < xs.length by have := HI.out.1; omega)
      obtain ⟨g, cap, eg, gb, gl, HG⟩ := Kd.S_form HO.out (by rw [HL.out]; have := HLT.out; omega)
      rw [HL.out] at eg
      injection eg with ea _ ec
      subst ea ec
      have GB := Aside0.mk gb
      clear gb gl HG
      obtain ⟨oki, c, hcl, hM, hcc, hfr, hoki, hH⟩ := Kd.S_elem HO.out z107 i HI.out.1 (by exact hlt)
      rw [HLE.out, mkTableDataS_at xs i.toNat HLT.out a] at hM
      generalize hxe : xs.getD i.toNat z107 = x at hM
      have HXE := Aside0.mk hxe
      have hxm : x ∈ xs := by rw [← hxe]; exact mem_getD xs z107 _ HLT.out
      have HXL := Aside0.mk (HX.out x hxm)
      clear hxe hxm
      obtain ⟨v1, rfl, g1⟩ := k107_openM hM
      have s1 : ∀ k, oki k → oki k := fun _ h => h
      have HH := Aside0.mk hH
      have H1 := Aside0.mk g1
      have HS1 := Aside0.mk s1
      have HOK := Aside0.mk (show ok g from (Kd.S_R HO.out).1 g rfl)
      have HOI := Aside0.mk hoki
      have HLT2 := Aside0.mk hlt
      have HE := Aside0.mk (show b + cnTableData x ≤ a + cnTableDataS xs ∧ b = a + cnTableDataS (xs.take i.toNat) ∧ 0 ≤ b ∧ 0 ≤ a ∧ a + cnTableDataS xs ≤ 4611686018427387000 by
        have e1 := cnTableDataS_take xs i.toNat HLT.out
        have e2 := cnTableDataS_take_le xs (i.toNat + 1)
        rw [HXE.out] at e1
        have := HI.out; have := HA.out
        refine ⟨by omega, by omega, by omega, by omega, by omega⟩)
      have HW1 := Aside0.mk (show wrap64 (b + 1) = b + 1 by have := HE.out; have := cnTableData_eq x; unfold wrap64; omega)
      clear hcl hM hcc hfr hoki hH hlt HO s1 g1
      go_wp2_with (first
        | ((with_reducible refine gate_callee (f := 101) rfl ?_)
           refine goesL_ (some 15) rfl rfl Try.func101 (by kernel_rfl) rfl #[.int .i64 b] rfl (by (try simp only [List.map_toArray, List.map_cons, List.map_nil]); first | done | rfl) ?_
           (with_reducible refine (markText_own (b) (by have := HE.out; have := cnTableData_eq x; omega) _).mono ?_)
           rintro e w3 ⟨rfl, hb⟩
           refine ⟨_, rfl, ?_⟩
           have n0 := Kd.H_below HH.out hb
           have n1 := Kd.S_below H1.out hb
           have n2 := below_step HB.out hb
           have n3 := Kept.below HK.out hb
           clear HH H1 HB HK
           (try clear hx)
           (try clear hf)
           have HH := Aside0.mk n0; have H1 := Aside0.mk n1; have HB := Aside0.mk n2; have HK := Aside0.mk n3
           clear n0 n1 n2 n3
           clear hb
           have hx : w3.cell? ⟨g, i.toNat * 2, none⟩ = some (.string x.f0) := (Ow.H_cells HH.out HI.out.1 HLT2.out).1 0 _ rfl
           have hf : w3.frozen? ⟨g, i.toNat * 2, none⟩ = false := (Ow.H_cells HH.out HI.out.1 HLT2.out).2 0)
        | ((with_reducible refine gate_store (t := 9) (p := 17) rfl ?_)
           refine store_event (t := 9) (p := 17) (v := ?vo_w4) (w1 := (w3.setCell ⟨g, i.toNat * 2, none⟩ (.string (mt (b))))) ?hg ?ho ?hn ?hr ?_; (case ho => rfl); (case hg => rfl); (case hn => rfl); (case hr => first | (go_simp; done) | (go_simp; rfl)); intro w4 hw
           have hseg := Kd.H_seg HH.out HI.out.1 HLT2.out (seg := [.string (mt (b))]) (j := 0) (show 0 + 1 ≤ 2 by decide) (fun q hq => by rw [List.mem_singleton.1 hq]; rfl)
           have hg : w3.grownBy w4 (some g) := by rw [hw]; exact hseg.2
           have n0 := (show Kd.H k107 107 w4 w0.heap.size ok (.slice (some ⟨g, 0, none⟩) xs.length co) L i oki [.string (mt (b)), v1] by rw [hw]; exact hseg.1)
           have n1 := Kd.S_grown H1.out hg (fun k hk e => (HOI.out k (HS1.out k hk)).2 (by injection e))
           have n2 := (show Below w0.heap.size w0 w4 by rw [hw]; exact below_set HB.out GB.out)
           have n3 := Kept.of_grown hg HK.out (fun k e => .inl (by injection e with e; exact e ▸ HOK.out))
           clear HH H1 HB HK
           (try clear hx)
           (try clear hf)
           have HH := Aside0.mk n0; have H1 := Aside0.mk n1; have HB := Aside0.mk n2; have HK := Aside0.mk n3
           clear n0 n1 n2 n3
           clear hw hg hseg
           have hx : w4.cell? ⟨g, i.toNat * 2 + 1, none⟩ = some (v1) := (Ow.H_cells HH.out HI.out.1 HLT2.out).1 1 _ rfl)
        | ((with_reducible refine gate_callee (f := 35) rfl ?_)
           refine goesL_ (some 26) rfl rfl Try.func35 (by kernel_rfl) rfl #[v1, .int .i64 (wrap64 (b + 1))] rfl (by (try simp only [List.map_toArray, List.map_cons, List.map_nil]); first | done | rfl) ?_
           (with_reducible refine (MarksValueS.go HXL.out (wrap64 (b + 1)) v1 oki w0 _ (by rw [HW1.out]; have := HE.out; omega) (by rw [HW1.out]; have := HE.out; have := cnTableData_eq x; omega) HB.out H1.out).mono ?_)
           rintro e w5 ⟨rfl, hr, hb, hk⟩
           refine ⟨_, rfl, ?_⟩
           have n0 := Kd.H_kept HH.out hk (fun k hk hn h1 => hn (HS1.out k h1))
           have n1 := hr
           have n2 := hb
           have n3 := HK.out.then_ hk (fun k h1 => .inl (HOI.out k (HS1.out k h1)).1)
           clear HH H1 HB HK
           (try clear hx)
           (try clear hf)
           have HH := Aside0.mk n0; have H1 := Aside0.mk n1; have HB := Aside0.mk n2; have HK := Aside0.mk n3
           clear n0 n1 n2 n3
           clear hr hb hk))
      obtain ⟨k1, rfl⟩ : ∃ m, gk = m + 1 := ⟨gk - 1, by have := HI.out; have := HLT2.out; omega⟩
      go_roundg k1
      case measure => omega
      case rel =>
        have hM2 := k107_mkA _ w0.heap.size oki (⟨mt (b), mkValueS x.f1 (wrap64 (b + 1))⟩ : S107) (Kd.S_mono H1.out HS1.out)
        have hS := Kd.H_back HH.out hM2 (fun _ hk => hk)
        have hz : i.toNat + 1 = (wrap64 (i + 1)).toNat := by have := HI.out; have := HLT2.out; have := HA.out; unfold wrap64; omega
        have hw1 : wrap64 (i + 1) = i + 1 := by have := HI.out; have := HLT2.out; have := HA.out; unfold wrap64; omega
        refine ⟨wrap64 (b + 1) + (cnValueS x.f1 : Nat), wrap64 (i + 1), _, rfl, rfl, ⟨by omega, ?_, ?_⟩, ⟨?_⟩, ⟨hS⟩, HB, HK⟩
        · have := HI.out; have := HLT2.out; omega
        · rw [← hz, cnTableDataS_take xs i.toNat HLT.out, HXE.out, cnTableData_eq]; (try simp only [HW1.out]); have := HE.out; omega
        · rw [← hz, ← mkTableDataS_step xs i.toNat HLT.out a, HXE.out, mkTableData_eq, ← HE.out.2.1, HLE.out]; (try simp only [HW1.out])
    · have hd : decide (i < (xs.length : Int)) = false := decide_eq_false hlt
      have HT := Aside0.mk (show i.toNat = xs.length by have := HI.out; omega)
      clear hlt
      go_wp2
      go_ret
      refine ⟨?_, ?_, HB.out, HK.out⟩
      · rw [HI.out.2.2, HT.out, List.take_of_length_le (Nat.le_refl _)]
        rfl
      · have := HO.out
        rw [HLE.out, HT.out, List.take_of_length_le (Nat.le_refl _), List.drop_of_length_le (Nat.le_refl _), List.append_nil] at this
        exact this
/-- All rows inside are short. -/
def LnTableData (x : S107) : Prop := x.f1.length ≤ 1048576 ∧ ∀ y ∈ x.f1, LnValue y
theorem marksTableDataS (xs : List S107) (hn : xs.length ≤ 1048576) (hx : ∀ y ∈ xs, LnTableData y) : MarksTableDataS xs := marksTableDataS_step xs hn (fun y hy => marksValueS y.f1 (hx y hy).1 (hx y hy).2)
end Go.Proofs.Ytcgdaeaaimkhdaa.Py
end
section
namespace Go.Proofs.Ytcgdaeaaimkhdaa.Py
open Go.RowKit Go.Proofs.Ytcgdaeaaimkhdaa.Ext Go.Proofs.YtcgdaeaaimkhdaaW.PrintWords Go.Proofs.YtcgdaeaaimkhdaaW.PrintLast Go.Proofs.YtcgdaeaaimkhdaaW.PrintMore
attribute [local go_sem] max2_int min2_int max_two min_two max_three min_three max_four min_four   -- for this text's walks alone
set_option linter.unusedVariables false
set_option linter.unusedSimpArgs false

/-! ### slices_Clone_string_string: function 88 -/
/-- slices.Clone at texts: the same texts, in a row of their own. -/
def slices_Clone_string_string.f (l0 : List ByteArray) : Option (List ByteArray) := if l0.length < 8796093022208 then some l0 else none
set_option maxHeartbeats 1000000 in
set_option maxRecDepth 100000 in
theorem slices_Clone_string_string.calls (A0 : Option Addr) (c0 : Nat) (l0 : List ByteArray) (r : List ByteArray) (w : World) (hr0 : Kd.C Kd.string w A0 l0.length l0) (hc0 : l0.length ≤ c0) (h : slices_Clone_string_string.f l0 = some r) :
    Calls Try.prog 88 #[.slice A0 l0.length c0] w fun e w' => ∃ v0_ : Value, e = .returned (v0_) ∧ Kd.R Kd.string 9 w' w.heap.size (fun _ => True) v0_ r ∧ Below w.heap.size w w' := by
  unfold slices_Clone_string_string.f at h
  by_cases hl : l0.length < 8796093022208
  · rw [if_pos hl] at h
    obtain rfl := Option.some.inj h
    have HL := Aside0.mk hl
    have HR0 := Aside0.mk hr0
    have HC0 := Aside0.mk hc0
    clear h hl hr0 hc0
    cases A0 with
    | none =>
      have hz : l0 = [] := by
        rcases Nat.eq_zero_or_pos l0.length with h0 | h0
        · exact List.eq_nil_of_length_eq_zero h0
        · obtain ⟨ad, h, _⟩ := HR0.out.2.2 h0
          cases h
      subst hz
      have he : ∀ n c w', (binOp .eql 22 (.slice none n c) (.slice none 0 0)).run Try.prog w' = .ok (.bool true) w' := fun n c w' => Go.Proofs.Ytcgdaeaaimkhdaa.Ext.eql_slice_nil Try.underlying22 none n c w'
      go_enter Try.func88, Try.ntmps88
      go_wp2
      go_ret
      exact ⟨_, rfl, Kd.R_nil _ _ _ _ _, Below.refl _ _⟩
    | some ad =>
      have he : ∀ n c w', (binOp .eql 22 (.slice (some ad) n c) (.slice none 0 0)).run Try.prog w' = .ok (.bool false) w' := fun n c w' => Go.Proofs.Ytcgdaeaaimkhdaa.Ext.eql_slice_nil Try.underlying22 (some ad) n c w'
      go_enter Try.func88, Try.ntmps88
      go_wp2_with (first
        | ((with_reducible refine gate_dst (N := 5) rfl ?_); refine Kd.R_lit Kd.string _ 9 ?hg (N := 5) ?hd (xs := ([] : List ByteArray)) (inner := []) (ok := fun _ => True) (okp := fun _ => True) ?hr ?hp (fun _ hk => hk) trivial (Below.refl _ _) (Nat.le_refl _) (by simp) ?_; (case hd => rfl); (case hg => rfl); (case hr => first | (go_simp; done) | (go_simp; rfl)); (case hp => exact (Reps.none _ _)); intro v5 w5 ho5 hb5 hg_ hnew_; clear hg_ hnew_; have HO5 := Aside0.mk ho5; have HB5 := Aside0.mk hb5; clear ho5 hb5)
        | ((with_reducible refine gate_builtin (b := .append) (xs := #[.tmp 5, .tmp 6]) rfl ?_); at_builtin; refine Kd.R_append_rows Kd.string (w0 := w) w.heap.size rfl (.tmp 5) (.tmp 6) 22 9 (.string ⟨#[]⟩) 16 rfl Try.underlying22 info9 rfl (by decide) (by omega) v5 ([] : List ByteArray) l0 _ _ _ (fun _ => True) (fun _ => False) rfl rfl ?aO ?aR (fun _ _ h => h) (fun _ h => h.elim) ?aF ?aB ?aS ?aL ?_; (case aR => exact (Kd.C_below HR0.out HB5.out)); (case aB => exact HB5.out); (case aF => exact (fun _ _ => trivial)); (case aO => exact HO5.out); (case aS => exact below_size HB5.out); (case aL => have := HL.out; simp; omega); intro v7 w7 ho hb hg hat; have HO7 := Aside0.mk ho; have HB7 := Aside0.mk hb; clear ho hb hg hat; obtain ⟨A7, c7, e7⟩ := Kd.R_slice HO7.out; subst e7))
      go_ret
      exact ⟨_, by first | rfl | (simp [errW_none, errW_some] <;> rfl) | (simp [*, errW_none, errW_some] <;> rfl), HO7.out, HB7.out⟩
  · rw [if_neg hl] at h
    cases h

end Go.Proofs.Ytcgdaeaaimkhdaa.Py
end
