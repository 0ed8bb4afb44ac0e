/- Plain words for the pure statements: what a function with rounds comes to, loops, cuts of a budget. No condition. -/
import Derived.Test.YtppgalehaiagaaaZIsValidTermWWords
import Derived.Test.YtppgalehaiagaaaZIsValidTermWLastM
import Derived.Test.YtppgalehaiagaaaZIsValidTermPx0M
import Derived.Test.YtppgalehaiagaaaZIsValidTermPx5
import Derived.Test.YtppgalehaiagaaaZIsValidTermPx9M
import Derived.Test.YtppgalehaiagaaaZIsValidTermPx16
import Derived.Test.YtppgalehaiagaaaZIsValidTermPx17
import Derived.Test.YtppgalehaiagaaaZIsValidTermPx18
import Derived.Test.YtppgalehaiagaaaZIsValidTermPx2M
import Derived.Test.YtppgalehaiagaaaZIsValidTermPx6M
import Derived.Test.YtppgalehaiagaaaZIsValidTermPx8
import Derived.Test.YtppgalehaiagaaaZIsValidTermPx4
section
namespace Go.Proofs.Ytppgalehaiagaaa.Pl
open Go.RowKit Go.Proofs.YtppgalehaiagaaaW.PrintWords
set_option linter.unusedVariables false
theorem Ev.up {α : Type} {g : Nat → Option α} {r : α} (h : Ev (fun k => g (k + 1)) r) : Ev g r := Ev.step (f := fun k => g (k + 1)) (fun _ => rfl) h
theorem Ev.pos {α : Type} {A B : Nat → Option α} {r : α} {c : Prop} [Decidable c] (hc : c) (h : Ev A r) : Ev (fun n => if c then A n else B n) r :=
  Ev.congr (f := A) (fun k => by rw [if_pos hc]) h
theorem Ev.neg {α : Type} {A B : Nat → Option α} {r : α} {c : Prop} [Decidable c] (hc : ¬ c) (h : Ev B r) : Ev (fun n => if c then A n else B n) r :=
  Ev.congr (f := B) (fun k => by rw [if_neg hc]) h
theorem Ev.cases {α : Type} {A B : Nat → Option α} {r : α} {c : Prop} [Decidable c] (h1 : c → Ev A r) (h2 : ¬ c → Ev B r) : Ev (fun n => if c then A n else B n) r := by
  by_cases hc : c
  · exact Ev.pos hc (h1 hc)
  · exact Ev.neg hc (h2 hc)
theorem Ev.eq {α : Type} {g : Nat → Option α} {r r' : α} (h : Ev g r) (e : r = r') : Ev g r' := e ▸ h
theorem Ev.const {α : Type} {a r : α} (e : a = r) : Ev (fun _ => some a) r := by subst e; exact Ev.now _
/-- A call without rounds. -/
theorem Ev.fix {α β : Type} {g : Option α} {a : α} {f : Nat → α → Option β} {r : β} (hg : g = some a) (h : Ev (fun n => f n a) r) : Ev (fun n => g.bind (f n)) r := by subst hg; exact h
theorem w1 {i n : Nat} (h : i < n) (hn : n ≤ maxLen) : wrap64 ((i : Int) + 1) = ((i + 1 : Nat) : Int) := by
  have : n ≤ 9223372036854775807 := hn
  unfold wrap64
  omega
theorem w1' {i n : Nat} (h : i < n) (hn : n ≤ 1048576) : wrap64 ((i : Int) + 1) = ((i + 1 : Nat) : Int) := w1 h (by unfold maxLen; omega)
theorem w64 {a : Int} (h : -9223372036854775808 ≤ a) (h2 : a ≤ 9223372036854775807) : wrap64 a = a := by unfold wrap64; omega
theorem wf64 {a : Int} (h : (Lit.int .i64 a).wf = true) : -9223372036854775808 ≤ a ∧ a ≤ 9223372036854775807 := by
  have h1 := of_decide_eq_true ((Bool.and_eq_true _ _).mp h).1
  have h2 := of_decide_eq_true ((Bool.and_eq_true _ _).mp h).2
  exact ⟨h1, h2⟩
/-- What is left of a budget, or -1. -/
def cut (n : Nat) (left : Int) : Int := if (n : Int) ≤ left then left - n else -1
theorem cut_zero {left : Int} (h : 0 ≤ left) : cut 0 left = left := by unfold cut; rw [if_pos (by omega)]; omega
theorem cut_neg {n : Nat} {left : Int} : cut n left < 0 ↔ ¬ ((n : Int) ≤ left) := by
  unfold cut
  split <;> omega
theorem cut_le {n : Nat} {left : Int} (h : 0 ≤ left) : cut n left ≤ left := by unfold cut; split <;> omega
theorem cut_add {m n : Nat} {left : Int} (h : 0 ≤ cut m left) : cut n (cut m left) = cut (m + n) left := by
  unfold cut at *
  split at h
  · rename_i h1
    simp only [if_pos h1]
    by_cases h2 : (n : Int) ≤ left - m
    · rw [if_pos h2, if_pos (by omega)]; omega
    · rw [if_neg h2, if_neg (by omega)]
  · omega
theorem cut_add' {m n : Nat} {left : Int} (h : cut m left < 0) : cut (m + n) left = -1 := by
  have := cut_neg.1 h
  unfold cut
  rw [if_neg (by omega)]
/-- 'left -= n; if left < 0 { return -1 }' -/
theorem cut_sub {n : Nat} {left : Int} (h : 0 ≤ left) (hl : left ≤ 1048576) (hn : n ≤ maxLen) : (wrap64 (left - (n : Int)) < 0 ↔ cut n left < 0) ∧ (0 ≤ cut n left → wrap64 (left - (n : Int)) = cut n left) := by
  have hn' : n ≤ 9223372036854775807 := hn
  have e : wrap64 (left - (n : Int)) = left - n := w64 (by omega) (by omega)
  rw [e, cut_neg]
  unfold cut
  constructor
  · omega
  · intro h2
    split at h2
    · rename_i h3; rw [if_pos h3]
    · omega
def sumF (W : Nat → Nat) : Nat → Nat → Nat
  | _, 0 => 0
  | i, m + 1 => W i + sumF W (i + 1) m
theorem sz_loop (n : Nat) (X : Nat → Nat → Int → Option Int) (L : Nat → Int → Nat → Option Int) (W : Nat → Nat)
    (h1 : ∀ k left i, i < n → L (k + 1) left i = (X k i left).bind fun t => if t < 0 then some (-1) else L k t (i + 1))
    (h2 : ∀ k left, L (k + 1) left n = some left)
    (hX : ∀ i left, i < n → 0 ≤ left → left ≤ 1048576 → Ev (fun k => X k i left) (cut (W i) left)) :
    ∀ m i left, i + m = n → 0 ≤ left → left ≤ 1048576 → Ev (fun k => L k left i) (cut (sumF W i m) left) := by
  intro m
  induction m with
  | zero =>
    intro i left hi h0 hl
    obtain rfl : i = n := by omega
    refine Ev.step (h2 · left) ?_
    exact Ev.const (cut_zero h0).symm
  | succ m ih =>
    intro i left hi h0 hl
    refine Ev.step (fun k => h1 k left i (by omega)) (Ev.bind (hX i left (by omega) h0 hl) ?_)
    by_cases hc : cut (W i) left < 0
    · exact Ev.pos hc (Ev.const (cut_add' hc).symm)
    · refine Ev.neg hc (Ev.eq (ih (i + 1) _ (by omega) (by omega) ?_) (cut_add (by omega)))
      have := cut_le (n := W i) h0
      omega
theorem sz_loop' (n : Nat) (L : Nat → Int → Nat → Option Int) (W : Nat → Nat)
    (h1 : ∀ k left i, i < n → 0 ≤ left → left ≤ 1048576 → L (k + 1) left i = if cut (W i) left < 0 then some (-1) else L k (cut (W i) left) (i + 1))
    (h2 : ∀ k left, L (k + 1) left n = some left) :
    ∀ m i left, i + m = n → 0 ≤ left → left ≤ 1048576 → Ev (fun k => L k left i) (cut (sumF W i m) left) := by
  intro m
  induction m with
  | zero =>
    intro i left hi h0 hl
    obtain rfl : i = n := by omega
    refine Ev.step (h2 · left) ?_
    exact Ev.const (cut_zero h0).symm
  | succ m ih =>
    intro i left hi h0 hl
    refine Ev.step (fun k => h1 k left i (by omega) h0 hl) ?_
    by_cases hc : cut (W i) left < 0
    · exact Ev.pos hc (Ev.const (cut_add' hc).symm)
    · refine Ev.neg hc (Ev.eq (ih (i + 1) _ (by omega) (by omega) ?_) (cut_add (by omega)))
      have := cut_le (n := W i) h0
      omega
theorem Ev.map {α β : Type} {g : Nat → Option α} {a : α} (f : α → β) (h : Ev g a) : Ev (fun k => (g k).map f) (f a) := by
  obtain ⟨K, hK⟩ := h
  exact ⟨K, fun k hk => by show (g k).map f = _; rw [hK k hk]; rfl⟩
theorem to_loop {α : Type} (n : Nat) (X : Nat → Nat → Option α) (L : Nat → List α → Nat → Option (List α)) (v : Nat → α)
    (h1 : ∀ k out i, i < n → out.length = n → L (k + 1) out i = (X k i).bind fun t => L k (out.set i t) (i + 1))
    (h2 : ∀ k out, L (k + 1) out n = some out)
    (hX : ∀ i, i < n → Ev (fun k => X k i) (v i)) :
    ∀ m i out, i + m = n → out.length = n → Ev (fun k => L k out i) (out.take i ++ (List.range' i m).map v) := by
  intro m
  induction m with
  | zero =>
    intro i out hi hl
    obtain rfl : i = n := by omega
    refine Ev.step (h2 · out) (Ev.const ?_)
    simp [← hl]
  | succ m ih =>
    intro i out hi hl
    refine Ev.step (fun k => h1 k out i (by omega) hl) (Ev.bind (hX i (by omega)) ?_)
    refine Ev.eq (ih (i + 1) (out.set i (v i)) (by omega) (by simpa using hl)) ?_
    rw [List.range'_succ, List.map_cons, List.take_succ_eq_append_getElem (by simp; omega)]
    simp [List.take_set_of_le]
theorem eq_loop (n : Nat) (X : Nat → Nat → Option Bool) (L : Nat → Nat → Option Bool)
    (h1 : ∀ k i, i < n → L (k + 1) i = (X k i).bind fun t => if t = true then L k (i + 1) else some false)
    (h2 : ∀ k, L (k + 1) n = some true)
    (hX : ∀ i, i < n → Ev (fun k => X k i) true) :
    ∀ m i, i + m = n → Ev (fun k => L k i) true := by
  intro m
  induction m with
  | zero =>
    intro i hi
    obtain rfl : i = n := by omega
    exact Ev.step h2 (Ev.now _)
  | succ m ih =>
    intro i hi
    exact Ev.step (fun k => h1 k i (by omega)) (Ev.bind (hX i (by omega)) (Ev.pos rfl (ih (i + 1) (by omega))))
/-- A loop that gathers. -/
theorem fold_loop {σ τ ρ : Type} (n : Nat) (X : Nat → Nat → Option τ) (L : Nat → σ → Nat → Option ρ) (g : σ → τ → σ) (v : Nat → τ) (fin : σ → ρ)
    (h1 : ∀ k s i, i < n → L (k + 1) s i = (X k i).bind fun t => L k (g s t) (i + 1))
    (h2 : ∀ k s, L (k + 1) s n = some (fin s))
    (hX : ∀ i, i < n → Ev (fun k => X k i) (v i)) :
    ∀ m i s, i + m = n → Ev (fun k => L k s i) (fin ((List.range' i m).foldl (fun s i => g s (v i)) s)) := by
  intro m
  induction m with
  | zero =>
    intro i s hi
    obtain rfl : i = n := by omega
    exact Ev.step (h2 · s) (Ev.now _)
  | succ m ih =>
    intro i s hi
    refine Ev.step (fun k => h1 k s i (by omega)) (Ev.bind (hX i (by omega)) ?_)
    rw [List.range'_succ, List.foldl_cons]
    exact ih (i + 1) (g s (v i)) (by omega)
theorem range_map_getElem {α β : Type} (f : α → β) (d : α) (xs : List α) : (List.range' 0 xs.length).map (fun i => f (xs.getD i d)) = xs.map f := by
  apply List.ext_getElem
  · simp
  · intro i h1 h2
    simp at h1
    simp [h1]
theorem sumF_list {α : Type} (f : α → Nat) (d : α) (xs : List α) : ∀ m i, i + m = xs.length → sumF (fun i => f (xs.getD i d)) i m = ((xs.drop i).map f).sum := by
  intro m
  induction m with
  | zero => intro i hi; simp [sumF, List.drop_of_length_le (show xs.length ≤ i by omega)]
  | succ m ih =>
    intro i hi
    have hlt : i < xs.length := by omega
    rw [List.drop_eq_getElem_cons hlt, List.map_cons, List.sum_cons, sumF, ih (i + 1) (by omega)]
    simp [List.getD_eq_getElem?_getD, hlt]
theorem foldl_range {α σ : Type} (g : σ → α → σ) (d : α) (xs : List α) (s : σ) : (List.range' 0 xs.length).foldl (fun s i => g s (xs.getD i d)) s = xs.foldl g s := by
  have h : xs = (List.range' 0 xs.length).map (fun i => xs.getD i d) := by
    have := range_map_getElem (fun x => x) d xs
    simpa using this.symm
  conv => rhs; rw [h, List.foldl_map]
def szs (xs : List ByteArray) : Nat := (xs.map ByteArray.size).sum
def wts (xs : List ByteArray) : Nat := xs.length + szs xs
theorem rdOf_str (xs : List ByteArray) (i : Nat) : rdOf ByteArray.empty xs (i : Int) = xs.getD i ByteArray.empty := by simp [rdOf]
theorem mem_getD {α : Type} (xs : List α) (d : α) (i : Nat) (h : i < xs.length) : xs.getD i d ∈ xs := by
  simp [List.getD_eq_getElem?_getD, h]
theorem sum_le_of_mem {α : Type} (f : α → Nat) {xs : List α} {x : α} (h : x ∈ xs) : f x ≤ (xs.map f).sum := by
  induction xs with
  | nil => cases h
  | cons y ys ih =>
    rcases List.mem_cons.1 h with rfl | h
    · simp
    · have := ih h
      simp
      omega
theorem fold_wrap {α : Type} (f : α → Nat) : ∀ (xs : List α) (s : Nat), s + (xs.map f).sum ≤ 9223372036854775807 → xs.foldl (fun (s : Int) y => wrap64 (s + (f y : Int))) (s : Int) = ((s + (xs.map f).sum : Nat) : Int)
  | [], s, _ => by simp
  | x :: xs, s, h => by
    rw [List.map_cons, List.sum_cons] at h
    rw [List.foldl_cons, w64 (a := (s : Int) + (f x : Int)) (by omega) (by omega), List.map_cons, List.sum_cons, ← Nat.add_assoc]
    have := fold_wrap f xs (s + f x) (by omega)
    rw [← this]
    simp
/-- Two texts with rounds come to the same. -/
def Same {α : Type} (f g : Nat → Option α) : Prop := ∃ r, Ev f r ∧ Ev g r
theorem Same.ret {α : Type} {a b : α} (h : a = b) : Same (fun _ => some a) (fun _ => some b) := ⟨a, Ev.now a, Ev.const h.symm⟩
theorem Same.symm {α : Type} {f g : Nat → Option α} (h : Same f g) : Same g f := let ⟨r, a, b⟩ := h; ⟨r, b, a⟩
theorem Same.bind {α β : Type} {f g : Nat → Option α} {F G : Nat → α → Option β} (h : Same f g) (k : ∀ r, Ev f r → Ev g r → Same (F · r) (G · r)) : Same (fun n => (f n).bind (F n)) (fun n => (g n).bind (G n)) := by
  obtain ⟨r, a, b⟩ := h
  obtain ⟨s, c, d⟩ := k r a b
  exact ⟨s, Ev.bind a c, Ev.bind b d⟩
theorem Same.bindL {α β : Type} {f : Nat → Option α} {F : Nat → α → Option β} {g : Nat → Option β} {a : α} (h : Ev f a) (k : Same (F · a) g) : Same (fun n => (f n).bind (F n)) g := by
  obtain ⟨s, c, d⟩ := k
  exact ⟨s, Ev.bind h c, d⟩
theorem Same.bindR {α β : Type} {f : Nat → Option α} {F : Nat → α → Option β} {g : Nat → Option β} {a : α} (h : Ev f a) (k : Same g (F · a)) : Same g (fun n => (f n).bind (F n)) := (Same.bindL h k.symm).symm
theorem Same.posL {α : Type} {A B g : Nat → Option α} {c : Prop} [Decidable c] (hc : c) (h : Same A g) : Same (fun n => if c then A n else B n) g := let ⟨r, a, b⟩ := h; ⟨r, Ev.pos hc a, b⟩
theorem Same.negL {α : Type} {A B g : Nat → Option α} {c : Prop} [Decidable c] (hc : ¬ c) (h : Same B g) : Same (fun n => if c then A n else B n) g := let ⟨r, a, b⟩ := h; ⟨r, Ev.neg hc a, b⟩
theorem Same.posR {α : Type} {A B g : Nat → Option α} {c : Prop} [Decidable c] (hc : c) (h : Same g A) : Same g (fun n => if c then A n else B n) := let ⟨r, a, b⟩ := h; ⟨r, a, Ev.pos hc b⟩
theorem Same.negR {α : Type} {A B g : Nat → Option α} {c : Prop} [Decidable c] (hc : ¬ c) (h : Same g B) : Same g (fun n => if c then A n else B n) := let ⟨r, a, b⟩ := h; ⟨r, a, Ev.neg hc b⟩
theorem Same.pos {α : Type} {A B C D : Nat → Option α} {c d : Prop} [Decidable c] [Decidable d] (hc : c) (hd : d) (h : Same A C) : Same (fun n => if c then A n else B n) (fun n => if d then C n else D n) := Same.posL hc (Same.posR hd h)
theorem Same.neg {α : Type} {A B C D : Nat → Option α} {c d : Prop} [Decidable c] [Decidable d] (hc : ¬ c) (hd : ¬ d) (h : Same B D) : Same (fun n => if c then A n else B n) (fun n => if d then C n else D n) := Same.negL hc (Same.negR hd h)
theorem Same.ite {α : Type} {A B C D : Nat → Option α} {c d : Prop} [Decidable c] [Decidable d] (e : c ↔ d) (h1 : c → Same A C) (h2 : ¬ c → Same B D) : Same (fun n => if c then A n else B n) (fun n => if d then C n else D n) := by
  by_cases hc : c
  · exact Same.pos hc (e.1 hc) (h1 hc)
  · exact Same.neg hc (fun h => hc (e.2 h)) (h2 hc)
theorem Same.up {α : Type} {f g : Nat → Option α} (h : Same (fun k => f (k + 1)) (fun k => g (k + 1))) : Same f g := let ⟨r, a, b⟩ := h; ⟨r, Ev.up a, Ev.up b⟩
/-- A loop over an index, on both sides, with one state. -/
theorem Same.loop {σ ρ : Type} (n : Nat) (L M : Nat → σ → Nat → Option ρ) (hend : ∀ s, Same (fun k => L k s n) (fun k => M k s n))
    (hstep : ∀ i s, i < n → (∀ s', Same (fun k => L k s' (i + 1)) (fun k => M k s' (i + 1))) → Same (fun k => L k s i) (fun k => M k s i)) : ∀ s, Same (fun k => L k s 0) (fun k => M k s 0) := by
  suffices h : ∀ m i s, i + m = n → Same (fun k => L k s i) (fun k => M k s i) from fun s => h n 0 s (by omega)
  intro m
  induction m with
  | zero => intro i s hi; obtain rfl : i = n := by omega
            exact hend s
  | succ m ih => intro i s hi; exact hstep i s (by omega) (fun s' => ih (i + 1) s' (by omega))
theorem mx_eq (a b : Int) : mx a b = if a > b then a else b := by unfold mx; split <;> split <;> omega
/-- Does one of a list say yes, in order; else what stands at the end. -/
theorem any_ev {α : Type} (xs : List α) (d : α) (P : α → Bool) (fin : Bool) (L X : Nat → Nat → Option Bool)
    (h1 : ∀ k i, i < xs.length → L (k + 1) i = (X k i).bind fun t => if t = true then some true else L k (i + 1))
    (hend : Ev (fun k => L k xs.length) fin) (hX : ∀ i, i < xs.length → Ev (fun k => X k i) (P (xs.getD i d))) : Ev (fun k => L k 0) (xs.any P || fin) := by
  suffices h : ∀ m i, i + m = xs.length → Ev (fun k => L k i) ((xs.drop i).any P || fin) from by simpa using h xs.length 0 (by omega)
  intro m
  induction m with
  | zero =>
    intro i hi
    obtain rfl : i = xs.length := by omega
    simpa using hend
  | succ m ih =>
    intro i hi
    have hlt : i < xs.length := by omega
    refine Ev.step (fun k => h1 k i hlt) (Ev.bind (hX i hlt) ?_)
    rw [List.drop_eq_getElem_cons hlt, List.any_cons, show xs.getD i d = xs[i] by simp [List.getD_eq_getElem?_getD, hlt]]
    cases hp : P xs[i]
    · exact Ev.neg (by simp) (by simpa using ih (i + 1) (by omega))
    · exact Ev.pos rfl (Ev.const (by simp))
/-- Do all of a list say yes, in order; then what stands at the end. -/
theorem all_ev {α : Type} (xs : List α) (d : α) (P : α → Bool) (fin : Bool) (L X : Nat → Nat → Option Bool)
    (h1 : ∀ k i, i < xs.length → L (k + 1) i = (X k i).bind fun t => if t = true then L k (i + 1) else some false)
    (hend : Ev (fun k => L k xs.length) fin) (hX : ∀ i, i < xs.length → Ev (fun k => X k i) (P (xs.getD i d))) : Ev (fun k => L k 0) (xs.all P && fin) := by
  suffices h : ∀ m i, i + m = xs.length → Ev (fun k => L k i) ((xs.drop i).all P && fin) from by simpa using h xs.length 0 (by omega)
  intro m
  induction m with
  | zero =>
    intro i hi
    obtain rfl : i = xs.length := by omega
    simpa using hend
  | succ m ih =>
    intro i hi
    have hlt : i < xs.length := by omega
    refine Ev.step (fun k => h1 k i hlt) (Ev.bind (hX i hlt) ?_)
    rw [List.drop_eq_getElem_cons hlt, List.all_cons, show xs.getD i d = xs[i] by simp [List.getD_eq_getElem?_getD, hlt]]
    cases hp : P xs[i]
    · exact Ev.neg (by simp) (Ev.const (by simp))
    · exact Ev.pos rfl (by simpa using ih (i + 1) (by omega))
end Go.Proofs.Ytppgalehaiagaaa.Pl
end
section
namespace Go.Proofs.Ytppgalehaiagaaa.Px
open Go.RowKit Go.Proofs.YtppgalehaiagaaaW.PrintWords Go.Proofs.Ytppgalehaiagaaa.Pl
set_option linter.unusedVariables false
set_option linter.unusedSimpArgs false
theorem szStringS_ev (xs : List ByteArray) (hx : xs.length ≤ maxLen ∧ ∀ y ∈ xs, y.size ≤ maxLen) (left : Int) (h0 : 0 ≤ left) (hl : left ≤ 1048576) : Ev (fun k => laws_szStringS.f k xs left) (cut (wts xs) left) := by
  simp only [laws_szStringS.f]
  have hs := cut_sub (n := xs.length) h0 hl hx.1
  by_cases hc : cut xs.length left < 0
  · exact Ev.pos (hs.1.2 hc) (Ev.const (cut_add' hc).symm)
  · refine Ev.neg (fun h => hc (hs.1.1 h)) ?_
    rw [hs.2 (by omega)]
    have hl2 := cut_le (n := xs.length) h0
    have hw := sz_loop' xs.length (fun k left i => laws_szStringS.l0 k xs left (i : Int)) (fun i => (xs.getD i ByteArray.empty).size) (fun k left i hi h0 hl => by
      have hz := cut_sub (n := (xs.getD i ByteArray.empty).size) h0 hl (hx.2 _ (mem_getD xs _ i hi))
      simp only [laws_szStringS.l0, rdOf_str]
      rw [if_pos (by omega), if_pos (by omega)]
      by_cases hc : cut (xs.getD i ByteArray.empty).size left < 0
      · rw [if_pos (hz.1.2 hc), if_pos hc]
      · rw [if_neg (fun h => hc (hz.1.1 h)), if_neg hc, hz.2 (by omega), w1 hi hx.1]) (fun k left => by simp only [laws_szStringS.l0]; rw [if_neg (by omega)]) xs.length 0 _ (by omega) (show 0 ≤ cut xs.length left by omega) (by omega)
    refine Ev.eq hw ?_
    rw [cut_add (by omega), sumF_list ByteArray.size ByteArray.empty xs xs.length 0 (by omega)]
    rfl
theorem toStringS_ev (xs : List ByteArray) (hx : xs.length ≤ 1048576) : Ev (fun k => laws_toStringS.f k xs) xs := by
  simp only [laws_toStringS.f]
  refine Ev.pos (by omega) (Ev.pos (by omega) ?_)
  have hw := to_loop xs.length (fun k i => some (xs.getD i ByteArray.empty)) (fun k out i => laws_toStringS.l0 k xs out (i : Int)) (fun i => xs.getD i ByteArray.empty) (fun k out i hi hl => by
    simp only [laws_toStringS.l0, rdOf_str]
    rw [if_pos (by omega), if_pos (by omega), if_pos (by omega), w1' hi hx]
    rfl) (fun k out => by simp only [laws_toStringS.l0]; rw [if_neg (by omega)]) (fun i hi => Ev.now _) xs.length 0 (List.replicate ((xs.length : Int)).toNat (⟨#[]⟩ : ByteArray)) (by omega) (by simp)
  refine Ev.eq hw ?_
  rw [List.take_zero, List.nil_append, range_map_getElem (fun x => x) ByteArray.empty xs, List.map_id']
theorem eqStringS_ev (xs : List ByteArray) (hx : xs.length ≤ 1048576) : Ev (fun k => laws_eqStringS.f k xs xs) true := by
  simp only [laws_eqStringS.f]
  refine Ev.pos (by simp) ?_
  exact eq_loop xs.length (fun k i => some true) (fun k i => laws_eqStringS.l0 k xs xs (i : Int)) (fun k i hi => by
    simp only [laws_eqStringS.l0]
    rw [if_pos (by omega), if_pos (by omega), if_pos (by omega), w1' hi hx]
    simp) (fun k => by simp only [laws_eqStringS.l0]; rw [if_neg (by omega)]) (fun i hi => Ev.now _) xs.length 0 (by omega)
end Go.Proofs.Ytppgalehaiagaaa.Px
end
section
namespace Go.Proofs.Ytppgalehaiagaaa.Px
open Go.RowKit Go.Proofs.YtppgalehaiagaaaW.PrintWords Go.Proofs.Ytppgalehaiagaaa.Pl
set_option linter.unusedVariables false
set_option linter.unusedSimpArgs false
mutual
def wtType : S25 → Nat
  | ⟨x0, x1, x2⟩ => wts x1 + (x2.length + wtTypeS x2)
def wtTypeS : List S25 → Nat
  | [] => 0
  | x :: r => wtType x + wtTypeS r
end
mutual
def cvType : S25 → S33
  | ⟨x0, x1, x2⟩ => ⟨x0, x1, (cvTypeS x2)⟩
def cvTypeS : List S25 → List S33
  | [] => []
  | x :: r => cvType x :: cvTypeS r
end
theorem wtTypeS_sum (xs : List S25) : wtTypeS xs = (xs.map wtType).sum := by
  induction xs with
  | nil => rfl
  | cons x r ih => simp [wtTypeS, ih]
theorem cvTypeS_map (xs : List S25) : cvTypeS xs = xs.map cvType := by
  induction xs with
  | nil => rfl
  | cons x r ih => simp [cvTypeS, ih]
theorem wtType_eq (x : S25) : wtType x = wts x.f1 + (x.f2.length + wtTypeS x.f2) := by cases x; simp only [wtType]
theorem cvType_eq (x : S25) : cvType x = ⟨x.f0, x.f1, (cvTypeS x.f2)⟩ := by cases x; simp only [cvType]
theorem indTypeL {P : S25 → Prop} (h : ∀ x, (∀ y ∈ x.f2, P y) → P x) : ∀ x, P x
  | ⟨x0, x1, x2⟩ => h _ (fun y hy => indTypeL h y)
termination_by x => SizeOf.sizeOf x
decreasing_by
  have := List.sizeOf_lt_of_mem hy
  simp at this ⊢
  omega
theorem indTypeI {P : S33 → Prop} (h : ∀ x, (∀ y ∈ x.f2, P y) → P x) : ∀ x, P x
  | ⟨x0, x1, x2⟩ => h _ (fun y hy => indTypeI h y)
termination_by x => SizeOf.sizeOf x
decreasing_by
  have := List.sizeOf_lt_of_mem hy
  simp at this ⊢
  omega
inductive SmType : S33 → Prop
  | mk {x : S33} : ((Lit.int .i64 x.f0).wf = true) → ((x.f1.length ≤ 1048576 ∧ ∀ y ∈ x.f1, y.size ≤ 1048576)) → x.f2.length ≤ 1048576 → (∀ y ∈ x.f2, SmType y) → SmType x
theorem SmType.p0 {x : S33} (h : SmType x) : (Lit.int .i64 x.f0).wf = true := by cases h; assumption
theorem SmType.p1 {x : S33} (h : SmType x) : (x.f1.length ≤ 1048576 ∧ ∀ y ∈ x.f1, y.size ≤ 1048576) := by cases h; assumption
theorem SmType.p2 {x : S33} (h : SmType x) : x.f2.length ≤ 1048576 ∧ ∀ y ∈ x.f2, SmType y := by cases h; constructor <;> assumption
theorem etaType (x : S33) : (⟨x.f0, x.f1, x.f2⟩ : S33) = x := by obtain ⟨_, _, _⟩ := x; rfl
mutual
def ndType : S33 → Nat
  | ⟨x0, x1, x2⟩ => 1 + ndTypeS x2
def ndTypeS : List S33 → Nat
  | [] => 0
  | x :: r => ndType x + ndTypeS r
end
theorem ndTypeS_sum (xs : List S33) : ndTypeS xs = (xs.map ndType).sum := by
  induction xs with
  | nil => rfl
  | cons x r ih => simp [ndTypeS, ih]
theorem ndType_eq (x : S33) : ndType x = 1 + (x.f2.map ndType).sum := by cases x; simp only [ndType, ndTypeS_sum]
theorem ndType_cv : ∀ x : S25, ndType (cvType x) ≤ wtType x + 1 := by
  refine indTypeL fun x ih => ?_
  rw [ndType_eq, cvType_eq, wtType_eq]
  have hL : ∀ l : List S25, (∀ y ∈ l, ndType (cvType y) ≤ wtType y + 1) → ((l.map cvType).map ndType).sum ≤ l.length + (l.map wtType).sum := by
    intro l
    induction l with
    | nil => intro _; simp
    | cons y r ih2 =>
      intro h
      have h1 := h y (List.mem_cons_self ..)
      have h2 := ih2 (fun z hz => h z (List.mem_cons_of_mem _ hz))
      simp only [List.map_cons, List.sum_cons, List.length_cons] at h2 ⊢
      omega
  have := hL x.f2 ih
  (try dsimp only)
  rw [cvTypeS_map, wtTypeS_sum]
  omega
theorem smType_of : ∀ x : S25, W25 x → wtType x ≤ 1048576 → SmType (cvType x) := by
  refine indTypeL fun x ih hw hw2 => ?_
  have hb := hw2
  rw [wtType_eq] at hb
  rw [cvType_eq]
  exact SmType.mk (hw.p0) (⟨by (try dsimp only); unfold wts at hb; omega, fun y hy => by (try dsimp only at hy); have := sum_le_of_mem ByteArray.size hy; unfold wts szs at hb; omega⟩) (by (try dsimp only); rw [cvTypeS_map, List.length_map]; omega) (fun z hz => by
      (try dsimp only at hz)
      rw [cvTypeS_map] at hz
      obtain ⟨y, hy, rfl⟩ := List.mem_map.1 hz
      exact ih y hy (hw.p2.2 y hy) (by have := sum_le_of_mem wtType hy; rw [← wtTypeS_sum] at this; omega))
theorem szTypeS_of (xs : List S25) (hx : xs.length ≤ maxLen) (h : ∀ y ∈ xs, ∀ left : Int, 0 ≤ left → left ≤ 1048576 → Ev (fun k => laws_szType.f k (y.f0) (y.f1) (y.f2) left) (cut (wtType y) left)) (left : Int) (h0 : 0 ≤ left) (hl : left ≤ 1048576) : Ev (fun k => laws_szTypeS.f k xs left) (cut (xs.length + wtTypeS xs) left) := by
  refine Ev.up ?_
  simp only [laws_szTypeS.f]
  have hs := cut_sub (n := xs.length) h0 hl hx
  by_cases hc : cut xs.length left < 0
  · exact Ev.pos (hs.1.2 hc) (Ev.const (cut_add' hc).symm)
  · refine Ev.neg (fun h => hc (hs.1.1 h)) ?_
    rw [hs.2 (by omega)]
    have hl2 := cut_le (n := xs.length) h0
    have hw := sz_loop xs.length (fun k i left => laws_szType.f k ((rd_T25 xs (i : Int)).f0) ((rd_T25 xs (i : Int)).f1) ((rd_T25 xs (i : Int)).f2) left) (fun k left i => laws_szTypeS.l0 k xs left (i : Int)) (fun i => wtType (xs.getD i z25)) (fun k left i hi => by
      simp only [laws_szTypeS.l0]
      rw [if_pos (by omega), if_pos (by omega), w1 hi hx]) (fun k left => by simp only [laws_szTypeS.l0]; rw [if_neg (by omega)]) (fun i left hi h0 hl => h _ (mem_getD xs z25 i hi) left h0 hl) xs.length 0 _ (by omega) (show 0 ≤ cut xs.length left by omega) (by omega)
    refine Ev.eq hw ?_
    rw [cut_add (by omega), sumF_list wtType z25 xs xs.length 0 (by omega), wtTypeS_sum]
    rfl
theorem szType_ev : ∀ x : S25, W25 x → ∀ left : Int, 0 ≤ left → left ≤ 1048576 → Ev (fun k => laws_szType.f k (x.f0) (x.f1) (x.f2) left) (cut (wtType x) left) := by
  refine indTypeL fun x ih hw left h0 hl => ?_
  refine Ev.up ?_
  simp only [laws_szType.f]
  rw [wtType_eq]
  have hb0 : (0 : Int) ≤ left ∧ left ≤ 1048576 := ⟨h0, hl⟩
  refine Ev.bind (szStringS_ev x.f1 hw.p1 _ hb0.1 hb0.2) ?_
  by_cases hc0 : cut (wts x.f1) left < 0
  · refine Ev.pos hc0 (Ev.const ?_)
    have hn : cut (wts x.f1) left < 0 := hc0
    have hn : cut (wts x.f1 + (x.f2.length + wtTypeS x.f2)) left < 0 := by rw [cut_add' hn]; omega
    have hv := cut_neg.1 hn; unfold cut; rw [if_neg hv]
  refine Ev.neg hc0 ?_
  have hb1 : (0 : Int) ≤ cut (wts x.f1) left ∧ cut (wts x.f1) left ≤ 1048576 := ⟨by omega, by have := cut_le (n := wts x.f1) h0; omega⟩
  refine Ev.bind (szTypeS_of x.f2 hw.p2.1 (fun y hy => ih y hy (hw.p2.2 y hy)) _ hb1.1 hb1.2) ?_
  by_cases hc1 : cut ((x.f2.length + wtTypeS x.f2)) (cut (wts x.f1) left) < 0
  · refine Ev.pos hc1 (Ev.const ?_)
    have hn : cut (wts x.f1 + (x.f2.length + wtTypeS x.f2)) left < 0 := by rw [← cut_add (by omega)]; exact hc1
    have hv := cut_neg.1 hn; unfold cut; rw [if_neg hv]
  refine Ev.neg hc1 ?_
  rw [cut_add (by omega)] at hc1 ⊢
  have hb2 : (0 : Int) ≤ cut (wts x.f1 + (x.f2.length + wtTypeS x.f2)) left ∧ cut (wts x.f1 + (x.f2.length + wtTypeS x.f2)) left ≤ 1048576 := ⟨by omega, by have := cut_le (n := wts x.f1 + (x.f2.length + wtTypeS x.f2)) h0; omega⟩
  exact Ev.const rfl
theorem toTypeS_of (xs : List S25) (hx : xs.length ≤ 1048576) (h : ∀ y ∈ xs, Ev (fun k => laws_toType.f k (y.f0) (y.f1) (y.f2)) ((cvType y).f0, (cvType y).f1, (cvType y).f2)) : Ev (fun k => laws_toTypeS.f k xs) (cvTypeS xs) := by
  refine Ev.up ?_
  simp only [laws_toTypeS.f]
  refine Ev.pos (by omega) (Ev.pos (by omega) ?_)
  have hw := to_loop xs.length (fun k i => (laws_toType.f k ((rd_T25 xs (i : Int)).f0) ((rd_T25 xs (i : Int)).f1) ((rd_T25 xs (i : Int)).f2)).map fun t => (⟨t.1, t.2.1, t.2.2⟩ : S33)) (fun k out i => laws_toTypeS.l0 k xs out (i : Int)) (fun i => cvType (xs.getD i z25)) (fun k out i hi hl => by
    simp only [laws_toTypeS.l0]
    rw [if_pos (by omega), if_pos (by omega)]
    rcases laws_toType.f k ((rd_T25 xs (i : Int)).f0) ((rd_T25 xs (i : Int)).f1) ((rd_T25 xs (i : Int)).f2) with _ | t
    · rfl
    · simp only [Option.map_some, Option.bind_some]
      rw [if_pos (by omega), w1' hi hx]
      rfl) (fun k out => by simp only [laws_toTypeS.l0]; rw [if_neg (by omega)]) (fun i hi => Ev.eq (Ev.map (fun t => (⟨t.1, t.2.1, t.2.2⟩ : S33)) (h _ (mem_getD xs z25 i hi))) (etaType _)) xs.length 0 (List.replicate ((xs.length : Int)).toNat z33) (by omega) (by simp)
  refine Ev.eq hw ?_
  rw [List.take_zero, List.nil_append, range_map_getElem cvType z25 xs, cvTypeS_map]
theorem toType_ev : ∀ x : S25, wtType x ≤ 1048576 → Ev (fun k => laws_toType.f k (x.f0) (x.f1) (x.f2)) ((cvType x).f0, (cvType x).f1, (cvType x).f2) := by
  refine indTypeL fun x ih hw2 => ?_
  refine Ev.up ?_
  simp only [laws_toType.f]
  have hb := hw2
  rw [wtType_eq] at hb
  refine Ev.bind (toStringS_ev x.f1 (by unfold wts at hb; omega)) ?_
  refine Ev.bind (toTypeS_of x.f2 (by omega) (fun y hy => ih y hy (by have := sum_le_of_mem wtType hy; rw [← wtTypeS_sum] at this; omega))) ?_
  exact Ev.const (by rw [cvType_eq])
theorem eqTypeS_of (xs : List S33) (hx : xs.length ≤ 1048576) (h : ∀ y ∈ xs, Ev (fun k => laws_eqType.f k (y.f0) (y.f1) (y.f2) (y.f0) (y.f1) (y.f2)) true) : Ev (fun k => laws_eqTypeS.f k xs xs) true := by
  refine Ev.up ?_
  simp only [laws_eqTypeS.f]
  refine Ev.pos (by simp) ?_
  exact eq_loop xs.length (fun k i => laws_eqType.f k ((rd_T33 xs (i : Int)).f0) ((rd_T33 xs (i : Int)).f1) ((rd_T33 xs (i : Int)).f2) ((rd_T33 xs (i : Int)).f0) ((rd_T33 xs (i : Int)).f1) ((rd_T33 xs (i : Int)).f2)) (fun k i => laws_eqTypeS.l0 k xs xs (i : Int)) (fun k i hi => by
    simp only [laws_eqTypeS.l0]
    rw [if_pos (by omega), if_pos (by omega), if_pos (by omega), w1' hi hx]) (fun k => by simp only [laws_eqTypeS.l0]; rw [if_neg (by omega)]) (fun i hi => h _ (mem_getD xs z33 i hi)) xs.length 0 (by omega)
theorem eqType_ev : ∀ x : S33, SmType x → Ev (fun k => laws_eqType.f k (x.f0) (x.f1) (x.f2) (x.f0) (x.f1) (x.f2)) true := by
  refine indTypeI fun x ih hs => ?_
  refine Ev.up ?_
  simp only [laws_eqType.f]
  refine Ev.pos (by simp) ?_
  refine Ev.bind (eqStringS_ev x.f1 hs.p1.1) (Ev.pos (by simp) ?_)
  refine Ev.bind (eqTypeS_of x.f2 hs.p2.1 (fun y hy => ih y hy (hs.p2.2 y hy))) (Ev.pos (by simp) ?_)
  exact Ev.now _
end Go.Proofs.Ytppgalehaiagaaa.Px
end
section
namespace Go.Proofs.Ytppgalehaiagaaa.Px
open Go.RowKit Go.Proofs.YtppgalehaiagaaaW.PrintWords Go.Proofs.Ytppgalehaiagaaa.Pl
set_option linter.unusedVariables false
set_option linter.unusedSimpArgs false
mutual
def wtTerm : S28 → Nat
  | ⟨x0, x1, x2, x3, x4, x5⟩ => x1.size + wtType x3 + wts x4 + (x5.length + wtTermS x5)
def wtTermS : List S28 → Nat
  | [] => 0
  | x :: r => wtTerm x + wtTermS r
end
mutual
def cvTerm : S28 → S36
  | ⟨x0, x1, x2, x3, x4, x5⟩ => ⟨x0, x1, x2, (cvType x3), x4, (cvTermS x5)⟩
def cvTermS : List S28 → List S36
  | [] => []
  | x :: r => cvTerm x :: cvTermS r
end
theorem wtTermS_sum (xs : List S28) : wtTermS xs = (xs.map wtTerm).sum := by
  induction xs with
  | nil => rfl
  | cons x r ih => simp [wtTermS, ih]
theorem cvTermS_map (xs : List S28) : cvTermS xs = xs.map cvTerm := by
  induction xs with
  | nil => rfl
  | cons x r ih => simp [cvTermS, ih]
theorem wtTerm_eq (x : S28) : wtTerm x = x.f1.size + wtType x.f3 + wts x.f4 + (x.f5.length + wtTermS x.f5) := by cases x; simp only [wtTerm]
theorem cvTerm_eq (x : S28) : cvTerm x = ⟨x.f0, x.f1, x.f2, (cvType x.f3), x.f4, (cvTermS x.f5)⟩ := by cases x; simp only [cvTerm]
theorem indTermL {P : S28 → Prop} (h : ∀ x, (∀ y ∈ x.f5, P y) → P x) : ∀ x, P x
  | ⟨x0, x1, x2, x3, x4, x5⟩ => h _ (fun y hy => indTermL h y)
termination_by x => SizeOf.sizeOf x
decreasing_by
  have := List.sizeOf_lt_of_mem hy
  simp at this ⊢
  omega
theorem indTermI {P : S36 → Prop} (h : ∀ x, (∀ y ∈ x.f5, P y) → P x) : ∀ x, P x
  | ⟨x0, x1, x2, x3, x4, x5⟩ => h _ (fun y hy => indTermI h y)
termination_by x => SizeOf.sizeOf x
decreasing_by
  have := List.sizeOf_lt_of_mem hy
  simp at this ⊢
  omega
inductive SmTerm : S36 → Prop
  | mk {x : S36} : ((Lit.int .i64 x.f0).wf = true) → (x.f1.size ≤ 1048576) → ((Lit.int .i64 x.f2).wf = true) → (SmType x.f3) → ((x.f4.length ≤ 1048576 ∧ ∀ y ∈ x.f4, y.size ≤ 1048576)) → x.f5.length ≤ 1048576 → (∀ y ∈ x.f5, SmTerm y) → SmTerm x
theorem SmTerm.p0 {x : S36} (h : SmTerm x) : (Lit.int .i64 x.f0).wf = true := by cases h; assumption
theorem SmTerm.p1 {x : S36} (h : SmTerm x) : x.f1.size ≤ 1048576 := by cases h; assumption
theorem SmTerm.p2 {x : S36} (h : SmTerm x) : (Lit.int .i64 x.f2).wf = true := by cases h; assumption
theorem SmTerm.p3 {x : S36} (h : SmTerm x) : SmType x.f3 := by cases h; assumption
theorem SmTerm.p4 {x : S36} (h : SmTerm x) : (x.f4.length ≤ 1048576 ∧ ∀ y ∈ x.f4, y.size ≤ 1048576) := by cases h; assumption
theorem SmTerm.p5 {x : S36} (h : SmTerm x) : x.f5.length ≤ 1048576 ∧ ∀ y ∈ x.f5, SmTerm y := by cases h; constructor <;> assumption
theorem etaTerm (x : S36) : (⟨x.f0, x.f1, x.f2, (⟨x.f3.f0, x.f3.f1, x.f3.f2⟩ : S33), x.f4, x.f5⟩ : S36) = x := by obtain ⟨_, _, _, ⟨_, _, _⟩, _, _⟩ := x; rfl
mutual
def ndTerm : S36 → Nat
  | ⟨x0, x1, x2, x3, x4, x5⟩ => 1 + ndTermS x5
def ndTermS : List S36 → Nat
  | [] => 0
  | x :: r => ndTerm x + ndTermS r
end
theorem ndTermS_sum (xs : List S36) : ndTermS xs = (xs.map ndTerm).sum := by
  induction xs with
  | nil => rfl
  | cons x r ih => simp [ndTermS, ih]
theorem ndTerm_eq (x : S36) : ndTerm x = 1 + (x.f5.map ndTerm).sum := by cases x; simp only [ndTerm, ndTermS_sum]
theorem ndTerm_cv : ∀ x : S28, ndTerm (cvTerm x) ≤ wtTerm x + 1 := by
  refine indTermL fun x ih => ?_
  rw [ndTerm_eq, cvTerm_eq, wtTerm_eq]
  have hL : ∀ l : List S28, (∀ y ∈ l, ndTerm (cvTerm y) ≤ wtTerm y + 1) → ((l.map cvTerm).map ndTerm).sum ≤ l.length + (l.map wtTerm).sum := by
    intro l
    induction l with
    | nil => intro _; simp
    | cons y r ih2 =>
      intro h
      have h1 := h y (List.mem_cons_self ..)
      have h2 := ih2 (fun z hz => h z (List.mem_cons_of_mem _ hz))
      simp only [List.map_cons, List.sum_cons, List.length_cons] at h2 ⊢
      omega
  have := hL x.f5 ih
  (try dsimp only)
  rw [cvTermS_map, wtTermS_sum]
  omega
theorem smTerm_of : ∀ x : S28, W28 x → wtTerm x ≤ 1048576 → SmTerm (cvTerm x) := by
  refine indTermL fun x ih hw hw2 => ?_
  have hb := hw2
  rw [wtTerm_eq] at hb
  rw [cvTerm_eq]
  exact SmTerm.mk (hw.p0) (by (try dsimp only); omega) (hw.p2) (smType_of _ hw.p3 (by omega)) (⟨by (try dsimp only); unfold wts at hb; omega, fun y hy => by (try dsimp only at hy); have := sum_le_of_mem ByteArray.size hy; unfold wts szs at hb; omega⟩) (by (try dsimp only); rw [cvTermS_map, List.length_map]; omega) (fun z hz => by
      (try dsimp only at hz)
      rw [cvTermS_map] at hz
      obtain ⟨y, hy, rfl⟩ := List.mem_map.1 hz
      exact ih y hy (hw.p5.2 y hy) (by have := sum_le_of_mem wtTerm hy; rw [← wtTermS_sum] at this; omega))
theorem szTermS_of (xs : List S28) (hx : xs.length ≤ maxLen) (h : ∀ y ∈ xs, ∀ left : Int, 0 ≤ left → left ≤ 1048576 → Ev (fun k => laws_szTerm.f k (y.f0) (y.f1) (y.f2) (y.f3.f0) (y.f3.f1) (y.f3.f2) (y.f4) (y.f5) left) (cut (wtTerm y) left)) (left : Int) (h0 : 0 ≤ left) (hl : left ≤ 1048576) : Ev (fun k => laws_szTermS.f k xs left) (cut (xs.length + wtTermS xs) left) := by
  refine Ev.up ?_
  simp only [laws_szTermS.f]
  have hs := cut_sub (n := xs.length) h0 hl hx
  by_cases hc : cut xs.length left < 0
  · exact Ev.pos (hs.1.2 hc) (Ev.const (cut_add' hc).symm)
  · refine Ev.neg (fun h => hc (hs.1.1 h)) ?_
    rw [hs.2 (by omega)]
    have hl2 := cut_le (n := xs.length) h0
    have hw := sz_loop xs.length (fun k i left => laws_szTerm.f k ((rd_T28 xs (i : Int)).f0) ((rd_T28 xs (i : Int)).f1) ((rd_T28 xs (i : Int)).f2) ((rd_T28 xs (i : Int)).f3.f0) ((rd_T28 xs (i : Int)).f3.f1) ((rd_T28 xs (i : Int)).f3.f2) ((rd_T28 xs (i : Int)).f4) ((rd_T28 xs (i : Int)).f5) left) (fun k left i => laws_szTermS.l0 k xs left (i : Int)) (fun i => wtTerm (xs.getD i z28)) (fun k left i hi => by
      simp only [laws_szTermS.l0]
      rw [if_pos (by omega), if_pos (by omega), w1 hi hx]) (fun k left => by simp only [laws_szTermS.l0]; rw [if_neg (by omega)]) (fun i left hi h0 hl => h _ (mem_getD xs z28 i hi) left h0 hl) xs.length 0 _ (by omega) (show 0 ≤ cut xs.length left by omega) (by omega)
    refine Ev.eq hw ?_
    rw [cut_add (by omega), sumF_list wtTerm z28 xs xs.length 0 (by omega), wtTermS_sum]
    rfl
theorem szTerm_ev : ∀ x : S28, W28 x → ∀ left : Int, 0 ≤ left → left ≤ 1048576 → Ev (fun k => laws_szTerm.f k (x.f0) (x.f1) (x.f2) (x.f3.f0) (x.f3.f1) (x.f3.f2) (x.f4) (x.f5) left) (cut (wtTerm x) left) := by
  refine indTermL fun x ih hw left h0 hl => ?_
  refine Ev.up ?_
  simp only [laws_szTerm.f]
  rw [wtTerm_eq]
  have hb0 : (0 : Int) ≤ left ∧ left ≤ 1048576 := ⟨h0, hl⟩
  have hs0 := cut_sub (n := x.f1.size) hb0.1 hb0.2 (hw.p1)
  by_cases hc0 : cut (x.f1.size) left < 0
  · refine Ev.pos (hs0.1.2 hc0) (Ev.const ?_)
    have hn : cut (x.f1.size) left < 0 := hc0
    have hn : cut (x.f1.size + wtType x.f3) left < 0 := by rw [cut_add' hn]; omega
    have hn : cut (x.f1.size + wtType x.f3 + wts x.f4) left < 0 := by rw [cut_add' hn]; omega
    have hn : cut (x.f1.size + wtType x.f3 + wts x.f4 + (x.f5.length + wtTermS x.f5)) left < 0 := by rw [cut_add' hn]; omega
    have hv := cut_neg.1 hn; unfold cut; rw [if_neg hv]
  refine Ev.neg (fun h => hc0 (hs0.1.1 h)) ?_
  rw [hs0.2 (by omega)]
  have hb1 : (0 : Int) ≤ cut (x.f1.size) left ∧ cut (x.f1.size) left ≤ 1048576 := ⟨by omega, by have := cut_le (n := x.f1.size) h0; omega⟩
  refine Ev.bind (szType_ev x.f3 hw.p3 _ hb1.1 hb1.2) ?_
  by_cases hc1 : cut (wtType x.f3) (cut (x.f1.size) left) < 0
  · refine Ev.pos hc1 (Ev.const ?_)
    have hn : cut (x.f1.size + wtType x.f3) left < 0 := by rw [← cut_add (by omega)]; exact hc1
    have hn : cut (x.f1.size + wtType x.f3 + wts x.f4) left < 0 := by rw [cut_add' hn]; omega
    have hn : cut (x.f1.size + wtType x.f3 + wts x.f4 + (x.f5.length + wtTermS x.f5)) left < 0 := by rw [cut_add' hn]; omega
    have hv := cut_neg.1 hn; unfold cut; rw [if_neg hv]
  refine Ev.neg hc1 ?_
  rw [cut_add (by omega)] at hc1 ⊢
  have hb2 : (0 : Int) ≤ cut (x.f1.size + wtType x.f3) left ∧ cut (x.f1.size + wtType x.f3) left ≤ 1048576 := ⟨by omega, by have := cut_le (n := x.f1.size + wtType x.f3) h0; omega⟩
  refine Ev.bind (szStringS_ev x.f4 hw.p4 _ hb2.1 hb2.2) ?_
  by_cases hc2 : cut (wts x.f4) (cut (x.f1.size + wtType x.f3) left) < 0
  · refine Ev.pos hc2 (Ev.const ?_)
    have hn : cut (x.f1.size + wtType x.f3 + wts x.f4) left < 0 := by rw [← cut_add (by omega)]; exact hc2
    have hn : cut (x.f1.size + wtType x.f3 + wts x.f4 + (x.f5.length + wtTermS x.f5)) left < 0 := by rw [cut_add' hn]; omega
    have hv := cut_neg.1 hn; unfold cut; rw [if_neg hv]
  refine Ev.neg hc2 ?_
  rw [cut_add (by omega)] at hc2 ⊢
  have hb3 : (0 : Int) ≤ cut (x.f1.size + wtType x.f3 + wts x.f4) left ∧ cut (x.f1.size + wtType x.f3 + wts x.f4) left ≤ 1048576 := ⟨by omega, by have := cut_le (n := x.f1.size + wtType x.f3 + wts x.f4) h0; omega⟩
  refine Ev.bind (szTermS_of x.f5 hw.p5.1 (fun y hy => ih y hy (hw.p5.2 y hy)) _ hb3.1 hb3.2) ?_
  by_cases hc3 : cut ((x.f5.length + wtTermS x.f5)) (cut (x.f1.size + wtType x.f3 + wts x.f4) left) < 0
  · refine Ev.pos hc3 (Ev.const ?_)
    have hn : cut (x.f1.size + wtType x.f3 + wts x.f4 + (x.f5.length + wtTermS x.f5)) left < 0 := by rw [← cut_add (by omega)]; exact hc3
    have hv := cut_neg.1 hn; unfold cut; rw [if_neg hv]
  refine Ev.neg hc3 ?_
  rw [cut_add (by omega)] at hc3 ⊢
  have hb4 : (0 : Int) ≤ cut (x.f1.size + wtType x.f3 + wts x.f4 + (x.f5.length + wtTermS x.f5)) left ∧ cut (x.f1.size + wtType x.f3 + wts x.f4 + (x.f5.length + wtTermS x.f5)) left ≤ 1048576 := ⟨by omega, by have := cut_le (n := x.f1.size + wtType x.f3 + wts x.f4 + (x.f5.length + wtTermS x.f5)) h0; omega⟩
  exact Ev.const rfl
theorem toTermS_of (xs : List S28) (hx : xs.length ≤ 1048576) (h : ∀ y ∈ xs, Ev (fun k => laws_toTerm.f k (y.f0) (y.f1) (y.f2) (y.f3.f0) (y.f3.f1) (y.f3.f2) (y.f4) (y.f5)) ((cvTerm y).f0, (cvTerm y).f1, (cvTerm y).f2, (cvTerm y).f3.f0, (cvTerm y).f3.f1, (cvTerm y).f3.f2, (cvTerm y).f4, (cvTerm y).f5)) : Ev (fun k => laws_toTermS.f k xs) (cvTermS xs) := by
  refine Ev.up ?_
  simp only [laws_toTermS.f]
  refine Ev.pos (by omega) (Ev.pos (by omega) ?_)
  have hw := to_loop xs.length (fun k i => (laws_toTerm.f k ((rd_T28 xs (i : Int)).f0) ((rd_T28 xs (i : Int)).f1) ((rd_T28 xs (i : Int)).f2) ((rd_T28 xs (i : Int)).f3.f0) ((rd_T28 xs (i : Int)).f3.f1) ((rd_T28 xs (i : Int)).f3.f2) ((rd_T28 xs (i : Int)).f4) ((rd_T28 xs (i : Int)).f5)).map fun t => (⟨t.1, t.2.1, t.2.2.1, (⟨t.2.2.2.1, t.2.2.2.2.1, t.2.2.2.2.2.1⟩ : S33), t.2.2.2.2.2.2.1, t.2.2.2.2.2.2.2⟩ : S36)) (fun k out i => laws_toTermS.l0 k xs out (i : Int)) (fun i => cvTerm (xs.getD i z28)) (fun k out i hi hl => by
    simp only [laws_toTermS.l0]
    rw [if_pos (by omega), if_pos (by omega)]
    rcases laws_toTerm.f k ((rd_T28 xs (i : Int)).f0) ((rd_T28 xs (i : Int)).f1) ((rd_T28 xs (i : Int)).f2) ((rd_T28 xs (i : Int)).f3.f0) ((rd_T28 xs (i : Int)).f3.f1) ((rd_T28 xs (i : Int)).f3.f2) ((rd_T28 xs (i : Int)).f4) ((rd_T28 xs (i : Int)).f5) with _ | t
    · rfl
    · simp only [Option.map_some, Option.bind_some]
      rw [if_pos (by omega), w1' hi hx]
      rfl) (fun k out => by simp only [laws_toTermS.l0]; rw [if_neg (by omega)]) (fun i hi => Ev.eq (Ev.map (fun t => (⟨t.1, t.2.1, t.2.2.1, (⟨t.2.2.2.1, t.2.2.2.2.1, t.2.2.2.2.2.1⟩ : S33), t.2.2.2.2.2.2.1, t.2.2.2.2.2.2.2⟩ : S36)) (h _ (mem_getD xs z28 i hi))) (etaTerm _)) xs.length 0 (List.replicate ((xs.length : Int)).toNat z36) (by omega) (by simp)
  refine Ev.eq hw ?_
  rw [List.take_zero, List.nil_append, range_map_getElem cvTerm z28 xs, cvTermS_map]
theorem toTerm_ev : ∀ x : S28, wtTerm x ≤ 1048576 → Ev (fun k => laws_toTerm.f k (x.f0) (x.f1) (x.f2) (x.f3.f0) (x.f3.f1) (x.f3.f2) (x.f4) (x.f5)) ((cvTerm x).f0, (cvTerm x).f1, (cvTerm x).f2, (cvTerm x).f3.f0, (cvTerm x).f3.f1, (cvTerm x).f3.f2, (cvTerm x).f4, (cvTerm x).f5) := by
  refine indTermL fun x ih hw2 => ?_
  refine Ev.up ?_
  simp only [laws_toTerm.f]
  have hb := hw2
  rw [wtTerm_eq] at hb
  refine Ev.bind (toType_ev x.f3 (by omega)) ?_
  refine Ev.bind (toStringS_ev x.f4 (by unfold wts at hb; omega)) ?_
  refine Ev.bind (toTermS_of x.f5 (by omega) (fun y hy => ih y hy (by have := sum_le_of_mem wtTerm hy; rw [← wtTermS_sum] at this; omega))) ?_
  exact Ev.const (by rw [cvTerm_eq])
theorem eqTermS_of (xs : List S36) (hx : xs.length ≤ 1048576) (h : ∀ y ∈ xs, Ev (fun k => laws_eqTerm.f k (y.f0) (y.f1) (y.f2) (y.f3.f0) (y.f3.f1) (y.f3.f2) (y.f4) (y.f5) (y.f0) (y.f1) (y.f2) (y.f3.f0) (y.f3.f1) (y.f3.f2) (y.f4) (y.f5)) true) : Ev (fun k => laws_eqTermS.f k xs xs) true := by
  refine Ev.up ?_
  simp only [laws_eqTermS.f]
  refine Ev.pos (by simp) ?_
  exact eq_loop xs.length (fun k i => laws_eqTerm.f k ((rd_T36 xs (i : Int)).f0) ((rd_T36 xs (i : Int)).f1) ((rd_T36 xs (i : Int)).f2) ((rd_T36 xs (i : Int)).f3.f0) ((rd_T36 xs (i : Int)).f3.f1) ((rd_T36 xs (i : Int)).f3.f2) ((rd_T36 xs (i : Int)).f4) ((rd_T36 xs (i : Int)).f5) ((rd_T36 xs (i : Int)).f0) ((rd_T36 xs (i : Int)).f1) ((rd_T36 xs (i : Int)).f2) ((rd_T36 xs (i : Int)).f3.f0) ((rd_T36 xs (i : Int)).f3.f1) ((rd_T36 xs (i : Int)).f3.f2) ((rd_T36 xs (i : Int)).f4) ((rd_T36 xs (i : Int)).f5)) (fun k i => laws_eqTermS.l0 k xs xs (i : Int)) (fun k i hi => by
    simp only [laws_eqTermS.l0]
    rw [if_pos (by omega), if_pos (by omega), if_pos (by omega), w1' hi hx]) (fun k => by simp only [laws_eqTermS.l0]; rw [if_neg (by omega)]) (fun i hi => h _ (mem_getD xs z36 i hi)) xs.length 0 (by omega)
theorem eqTerm_ev : ∀ x : S36, SmTerm x → Ev (fun k => laws_eqTerm.f k (x.f0) (x.f1) (x.f2) (x.f3.f0) (x.f3.f1) (x.f3.f2) (x.f4) (x.f5) (x.f0) (x.f1) (x.f2) (x.f3.f0) (x.f3.f1) (x.f3.f2) (x.f4) (x.f5)) true := by
  refine indTermI fun x ih hs => ?_
  refine Ev.up ?_
  simp only [laws_eqTerm.f]
  refine Ev.pos (by simp) ?_
  refine Ev.pos (by simp) ?_
  refine Ev.pos (by simp) ?_
  refine Ev.bind (eqType_ev x.f3 hs.p3) (Ev.pos (by simp) ?_)
  refine Ev.bind (eqStringS_ev x.f4 hs.p4.1) (Ev.pos (by simp) ?_)
  refine Ev.bind (eqTermS_of x.f5 hs.p5.1 (fun y hy => ih y hy (hs.p5.2 y hy))) (Ev.pos (by simp) ?_)
  exact Ev.now _
end Go.Proofs.Ytppgalehaiagaaa.Px
end
section
namespace Go.Proofs.Ytppgalehaiagaaa.Px
open Go.RowKit Go.Proofs.YtppgalehaiagaaaW.PrintWords Go.Proofs.YtppgalehaiagaaaW.PrintLast Go.Proofs.Ytppgalehaiagaaa.Pl Go.Proofs.Ytppgalehaiagaaa.Ext
set_option linter.unusedVariables false
set_option linter.unusedSimpArgs false
def small (c : Int) : Bool := decide (97 ≤ c) && decide (c ≤ 122)
def dig (c : Int) : Bool := decide (48 ≤ c) && decide (c ≤ 57)
def chkS (s : ByteArray) : Nat → Nat → Bool
  | _, 0 => true
  | i, m + 1 => (small (bt s i) || (i != 0 && dig (bt s i))) && chkS s (i + 1) m
def chkI (s : ByteArray) : Nat → Nat → Bool
  | _, 0 => true
  | i, m + 1 => (small (bt s i) || dig (bt s i)) && chkI s (i + 1) m
def isName (s : ByteArray) : Bool := chkS s 0 s.size && (decide (1 ≤ s.size ∧ s.size ≤ 4) && (s.toList != ([105, 102] : List UInt8) && s.toList != ([102, 111, 114] : List UInt8)))
theorem chk_later (s : ByteArray) : ∀ m i, i ≠ 0 → chkI s i m = chkS s i m := by
  intro m
  induction m with
  | zero => intro i h; rfl
  | succ m ih =>
    intro i h
    simp only [chkI, chkS]
    rw [ih (i + 1) (by omega)]
    have : (i != 0) = true := by simpa using h
    rw [this, Bool.true_and]
theorem isSmall_eq (c : Int) : impl_isSmall.f c = some (small c) := by
  unfold impl_isSmall.f small
  split
  · rename_i h; simp [show (97 : Int) ≤ c from h]
  · rename_i h; simp [show ¬ (97 : Int) ≤ c from h]
theorem isDigit_eq (c : Int) : impl_isDigit.f c = some (dig c) := by
  unfold impl_isDigit.f dig
  split
  · rename_i h; simp [show (48 : Int) ≤ c from h]
  · rename_i h; simp [show ¬ (48 : Int) ≤ c from h]
theorem small_pos {c : Int} (h : 97 ≤ c) (h2 : c ≤ 122) : small c = true := by simp [small, h, h2]
theorem small_neg {c : Int} (h : ¬ (97 ≤ c ∧ c ≤ 122)) : small c = false := by
  unfold small
  by_cases h1 : 97 ≤ c
  · by_cases h2 : c ≤ 122
    · exact absurd ⟨h1, h2⟩ h
    · simp [h2]
  · simp [h1]
theorem dig_pos {c : Int} (h : 48 ≤ c) (h2 : c ≤ 57) : dig c = true := by simp [dig, h, h2]
theorem dig_neg {c : Int} (h : ¬ (48 ≤ c ∧ c ≤ 57)) : dig c = false := by
  unfold dig
  by_cases h1 : 48 ≤ c
  · by_cases h2 : c ≤ 57
    · exact absurd ⟨h1, h2⟩ h
    · simp [h2]
  · simp [h1]
theorem spec_IsName_ev (s : ByteArray) (hs : s.size ≤ 1048576) : Ev (fun k => spec_IsName.f k s) (isName s) := by
  have hend : Ev (fun (k : Nat) => ((spec_l1In.f (s.size : Int) 1 4).bind fun t => (if t = true then (if s.toList = ([105, 102] : List UInt8) then (some false) else (some (s.toList != ([102, 111, 114] : List UInt8)))) else (some false)))) (decide (1 ≤ s.size ∧ s.size ≤ 4) && (s.toList != ([105, 102] : List UInt8) && s.toList != ([102, 111, 114] : List UInt8))) := by
    refine ⟨0, fun k _ => ?_⟩
    unfold spec_l1In.f
    by_cases h1 : 1 ≤ s.size
    · by_cases h2 : s.size ≤ 4
      · rw [if_pos (by omega), Option.bind_some, if_pos (by simpa using (by omega : (s.size : Int) ≤ 4))]
        by_cases h3 : s.toList = ([105, 102] : List UInt8)
        · rw [if_pos h3]; simp [h3]
        · rw [if_neg h3]
          have : (s.toList != ([105, 102] : List UInt8)) = true := by simpa using h3
          rw [this]; simp [h1, h2]
      · rw [if_pos (by omega), Option.bind_some, if_neg (by simpa using (by omega : (4 : Int) < s.size))]
        simp [h2]
    · rw [if_neg (by omega), Option.bind_some, if_neg (by simp)]
      simp [h1]
  suffices h : ∀ m i, i + m = s.size → Ev (fun k => spec_IsName.l0 k s (i : Int)) (chkS s i m && (decide (1 ≤ s.size ∧ s.size ≤ 4) && (s.toList != ([105, 102] : List UInt8) && s.toList != ([102, 111, 114] : List UInt8)))) from h s.size 0 (by omega)
  intro m
  induction m with
  | zero =>
    intro i hi
    refine Ev.up ?_
    simp only [spec_IsName.l0]
    exact Ev.neg (by omega) (Ev.eq hend (by simp [chkS]))
  | succ m ih =>
    intro i hi
    refine Ev.up ?_
    simp only [spec_IsName.l0, chkS]
    rw [w1' (n := s.size) (by omega) hs]
    have hr := ih (i + 1) (by omega)
    have hdig : ∀ (hsm : small (bt s (i : Int)) = false), Ev (fun k => if (i : Int) = 0 then some false else if bt s (i : Int) < 48 then some false else if bt s (i : Int) > 57 then some false else spec_IsName.l0 k s ((i + 1 : Nat) : Int)) ((small (bt s (i : Int)) || (i != 0 && dig (bt s (i : Int)))) && chkS s (i + 1) m && (decide (1 ≤ s.size ∧ s.size ≤ 4) && (s.toList != ([105, 102] : List UInt8) && s.toList != ([102, 111, 114] : List UInt8)))) := by
      intro hsm
      rw [hsm, Bool.false_or]
      refine Ev.cases (fun h0 => ?_) (fun h0 => Ev.cases (fun h1 => ?_) (fun h1 => Ev.cases (fun h2 => ?_) (fun h2 => ?_)))
      · obtain rfl : i = 0 := by omega
        exact Ev.const (by simp)
      · rw [dig_neg (by omega)]; exact Ev.const (by simp)
      · rw [dig_neg (by omega)]; exact Ev.const (by simp)
      · rw [dig_pos (by omega) (by omega)]
        have hi0 : (i != 0) = true := by simpa using (show i ≠ 0 by omega)
        exact Ev.eq hr (by rw [hi0, Bool.true_and, Bool.true_and])
    refine Ev.pos (by omega) (Ev.pos (by omega) (Ev.cases (fun h1 => Ev.cases (fun h2 => ?_) (fun h2 => hdig (small_neg (by omega)))) (fun h1 => hdig (small_neg (by omega)))))
    rw [small_pos (by omega) h2, Bool.true_or, Bool.true_and]
    exact hr
theorem impl_IsName_ev (s : ByteArray) (hs : s.size ≤ 1048576) : Ev (fun k => impl_IsName.f k s) (isName s) := by
  have hl : ∀ m i, i + m = s.size → Ev (fun k => impl_IsName.l0 k s (s.size : Int) (i : Int)) (chkI s i m) := by
    intro m
    induction m with
    | zero =>
      intro i hi
      refine Ev.up ?_
      simp only [impl_IsName.l0]
      exact Ev.neg (by omega) (Ev.now _)
    | succ m ih =>
      intro i hi
      refine Ev.up ?_
      simp only [impl_IsName.l0, chkI]
      rw [w1' (n := s.size) (by omega) hs]
      refine Ev.pos (by omega) (Ev.pos (by omega) (Ev.pos (by omega) (Ev.fix (isSmall_eq _) ?_)))
      refine Ev.cases (fun h1 => ?_) (fun h1 => Ev.fix (isDigit_eq _) (Ev.cases (fun h2 => ?_) (fun h2 => ?_)))
      · rw [h1, Bool.true_or, Bool.true_and]; exact ih (i + 1) (by omega)
      · rw [h2, Bool.or_true, Bool.true_and]; exact ih (i + 1) (by omega)
      · rw [Bool.eq_false_iff.2 h1, Bool.eq_false_iff.2 h2]; exact Ev.const (by simp)
  have hj : ∀ b, Ev (fun k => impl_IsName.j0 k s b) (!b && chkI s 0 s.size) := by
    intro b
    refine Ev.up ?_
    simp only [impl_IsName.j0]
    refine Ev.cases (fun h => ?_) (fun h => ?_)
    · rw [h]; exact Ev.const (by simp)
    · rw [Bool.eq_false_iff.2 h]; exact Ev.eq (hl s.size 0 (by omega)) (by simp)
  have hjt : Ev (fun k => impl_IsName.j0 k s true) false := Ev.eq (hj true) (by simp)
  have hfail : ¬ (1 ≤ s.size ∧ s.size ≤ 4) → isName s = false := by intro h; simp only [isName]; rw [decide_eq_false h]; simp
  simp only [impl_IsName.f]
  refine Ev.cases (fun h1 => ?_) (fun h1 => Ev.cases (fun h2 => ?_) (fun h2 => Ev.pos (by omega) (Ev.fix (isSmall_eq _) ?_)))
  · rw [hfail (by omega)]; exact hjt
  · rw [hfail (by omega)]; exact hjt
  · obtain ⟨n, hn⟩ : ∃ n, s.size = n + 1 := ⟨s.size - 1, by omega⟩
    have hc : isName s = ((small (bt s 0) && chkS s 1 n) && (s.toList != ([105, 102] : List UInt8) && s.toList != ([102, 111, 114] : List UInt8))) := by
      simp only [isName]
      rw [decide_eq_true (show 1 ≤ s.size ∧ s.size ≤ 4 by omega), Bool.true_and, hn]
      simp [chkS]
    rw [hc]
    refine Ev.cases (fun h3 => ?_) (fun h3 => ?_)
    · have hk : chkI s 0 s.size = chkS s 1 n := by
        rw [hn]
        simp only [chkI]
        rw [chk_later s n (0 + 1) (by omega)]
        rw [show small (bt s ((0 : Nat) : Int)) = true from h3, Bool.true_or, Bool.true_and]
      rw [h3, Bool.true_and]
      refine Ev.cases (fun h4 => ?_) (fun h4 => ?_)
      · rw [h4]; exact Ev.eq hjt (by simp)
      · have h4' : (s.toList != ([105, 102] : List UInt8)) = true := by simpa using h4
        refine Ev.eq (hj _) ?_
        rw [hk, h4', Bool.true_and, Bool.and_comm]
        rfl
    · rw [Bool.eq_false_iff.2 h3]; exact Ev.eq hjt (by simp)
end Go.Proofs.Ytppgalehaiagaaa.Px
end
section
namespace Go.Proofs.Ytppgalehaiagaaa.Px
open Go.RowKit Go.Proofs.YtppgalehaiagaaaW.PrintWords Go.Proofs.YtppgalehaiagaaaW.PrintLast Go.Proofs.Ytppgalehaiagaaa.Pl Go.Proofs.Ytppgalehaiagaaa.Ext
set_option linter.unusedVariables false
set_option linter.unusedSimpArgs false
/-- Are the names ascending, from an index on? -/
def asc (xs : List ByteArray) : Nat → Nat → Bool
  | _, 0 => true
  | i, m + 1 => Op.bytesLess (xs.getD (i - 1) ByteArray.empty).toList (xs.getD i ByteArray.empty).toList && asc xs (i + 1) m
theorem rdm (xs : List ByteArray) (i : Nat) (h : 1 ≤ i) (hi : i ≤ 1048576) : wrap64 ((i : Int) - 1) = ((i - 1 : Nat) : Int) := by unfold wrap64; omega
theorem spec_AreAscending_ev (xs : List ByteArray) (hx : xs.length ≤ 1048576) : Ev (fun k => spec_AreAscending.f k xs) (asc xs 1 (xs.length - 1)) := by
  suffices h : ∀ m i, 1 ≤ i → (i + m = xs.length ∨ m = 0 ∧ xs.length ≤ i) → i ≤ 1048576 → Ev (fun k => spec_AreAscending.l0 k xs (i : Int)) (asc xs i m) by
    exact h (xs.length - 1) 1 (by omega) (by omega) (by omega)
  intro m
  induction m with
  | zero =>
    intro i h1 hi hl
    refine Ev.up ?_
    simp only [spec_AreAscending.l0]
    exact Ev.neg (by omega) (Ev.now _)
  | succ m ih =>
    intro i h1 hi hl
    refine Ev.up ?_
    simp only [spec_AreAscending.l0]
    rw [rdm xs i h1 hl]
    refine Ev.pos (by omega) (Ev.pos (by omega) (Ev.pos (by omega) (Ev.pos (by omega) ?_)))
    simp only [rdOf_str, asc]
    by_cases hc : Op.bytesLess (xs.getD (i - 1) ByteArray.empty).toList (xs.getD i ByteArray.empty).toList = true
    · refine Ev.pos hc ?_
      rw [w1' (n := xs.length) (by omega) hx, hc, Bool.true_and]
      exact ih (i + 1) (by omega) (by omega) (by omega)
    · refine Ev.neg hc ?_
      rw [Bool.eq_false_iff.2 hc, Bool.false_and]
      exact Ev.now _
theorem impl_AreAscending_ev (xs : List ByteArray) (hx : xs.length ≤ 1048576) : Ev (fun k => impl_AreAscending.f k xs) (asc xs 1 (xs.length - 1)) := by
  suffices h : ∀ m i, 1 ≤ i → (i + m = xs.length ∨ m = 0 ∧ xs.length ≤ i) → i ≤ 1048576 → Ev (fun k => impl_AreAscending.l0 k xs (i : Int)) (asc xs i m) by
    exact h (xs.length - 1) 1 (by omega) (by omega) (by omega)
  intro m
  induction m with
  | zero =>
    intro i h1 hi hl
    refine Ev.up ?_
    simp only [impl_AreAscending.l0]
    exact Ev.neg (by omega) (Ev.now _)
  | succ m ih =>
    intro i h1 hi hl
    refine Ev.up ?_
    simp only [impl_AreAscending.l0]
    rw [rdm xs i h1 hl]
    refine Ev.pos (by omega) (Ev.pos (by omega) (Ev.pos (by omega) (Ev.pos (by omega) ?_)))
    simp only [rdOf_str, asc]
    by_cases hc : Op.bytesLess (xs.getD (i - 1) ByteArray.empty).toList (xs.getD i ByteArray.empty).toList = true
    · refine Ev.pos hc ?_
      rw [w1' (n := xs.length) (by omega) hx, hc, Bool.true_and]
      exact ih (i + 1) (by omega) (by omega) (by omega)
    · refine Ev.neg hc ?_
      rw [Bool.eq_false_iff.2 hc, Bool.false_and]
      exact Ev.now _
end Go.Proofs.Ytppgalehaiagaaa.Px
end
section
namespace Go.Proofs.Ytppgalehaiagaaa.Px
open Go.RowKit Go.Proofs.YtppgalehaiagaaaW.PrintWords Go.Proofs.YtppgalehaiagaaaW.PrintLast Go.Proofs.Ytppgalehaiagaaa.Pl Go.Proofs.Ytppgalehaiagaaa.Ext
set_option linter.unusedVariables false
set_option linter.unusedSimpArgs false
/-- Can a list be that of a record's labels? -/
def labB (xs : List ByteArray) : Bool := xs.all isName && (decide (1 ≤ xs.length ∧ xs.length ≤ 4) && asc xs 1 (xs.length - 1))
theorem spec_l1In_eq (a b c : Int) : spec_l1In.f a b c = some (decide (b ≤ a ∧ a ≤ c)) := by
  unfold spec_l1In.f
  by_cases h : a ≥ b
  · rw [if_pos h]
    have h' : b ≤ a := h
    simp [h']
  · rw [if_neg h]
    have h' : ¬ b ≤ a := h
    simp [h']
theorem spec_l3Labels_ev (xs : List ByteArray) (hx : xs.length ≤ 1048576) (hy : ∀ y ∈ xs, y.size ≤ 1048576) : Ev (fun k => spec_l3Labels.f k xs) (labB xs) := by
  simp only [spec_l3Labels.f, labB]
  refine all_ev xs ByteArray.empty isName _ (fun k i => spec_l3Labels.l0 k xs (i : Int)) (fun k i => spec_IsName.f k (rdOf ByteArray.empty xs (i : Int))) (fun k i hi => ?_) ?_ (fun i hi => ?_)
  · simp only [spec_l3Labels.l0]
    rw [if_pos (by omega), if_pos (by omega), w1' hi hx]
  · refine Ev.up ?_
    simp only [spec_l3Labels.l0, spec_l1In_eq, Option.bind_some]
    refine Ev.neg (by omega) ?_
    refine Ev.cases (fun h => ?_) (fun h => ?_)
    · have h2 : (1 ≤ xs.length ∧ xs.length ≤ 4) := by simp at h; omega
      rw [decide_eq_true h2, Bool.true_and]
      exact Ev.bind (spec_AreAscending_ev xs hx) (Ev.now _)
    · have h2 : ¬ (1 ≤ xs.length ∧ xs.length ≤ 4) := by intro h3; apply h; simp; omega
      rw [decide_eq_false h2, Bool.false_and]
      exact Ev.now _
  · rw [rdOf_str]
    exact spec_IsName_ev _ (hy _ (mem_getD xs _ i hi))
theorem IndexFunc_labels (xs : List ByteArray) (hx : xs.length ≤ 1048576) (hy : ∀ y ∈ xs, y.size ≤ 1048576) : ∃ r : Int, Ev (fun k => slices_IndexFunc_string_of_labelsOk_1.l0 k xs (xs.length : Int) 0) r ∧ decide (r ≥ 0) = !(xs.all isName) := by
  suffices h : ∀ m i, i + m = xs.length → ∃ r : Int, Ev (fun k => slices_IndexFunc_string_of_labelsOk_1.l0 k xs (xs.length : Int) (i : Int)) r ∧ decide (r ≥ 0) = !((xs.drop i).all isName) from by simpa using h xs.length 0 (by omega)
  intro m
  induction m with
  | zero =>
    intro i hi
    refine ⟨-1, Ev.up ?_, by rw [List.drop_of_length_le (by omega)]; rfl⟩
    simp only [slices_IndexFunc_string_of_labelsOk_1.l0]
    exact Ev.neg (by omega) (Ev.now _)
  | succ m ih =>
    intro i hi
    have hlt : i < xs.length := by omega
    have e : xs.getD i ByteArray.empty = xs[i] := by simp [List.getD_eq_getElem?_getD, hlt]
    have hn : Ev (fun k => impl_labelsOk_1.f k (rdOf ByteArray.empty xs (i : Int))) (!(isName xs[i])) := by
      simp only [impl_labelsOk_1.f]
      rw [rdOf_str, e]
      exact Ev.bind (impl_IsName_ev _ (by rw [← e]; exact hy _ (mem_getD xs _ i hlt))) (Ev.now _)
    rw [List.drop_eq_getElem_cons hlt, List.all_cons]
    cases hp : isName xs[i]
    · refine ⟨(i : Int), Ev.up ?_, by simp⟩
      simp only [slices_IndexFunc_string_of_labelsOk_1.l0]
      rw [hp] at hn
      exact Ev.pos (by omega) (Ev.pos (by omega) (Ev.pos (by omega) (Ev.bind hn (Ev.pos (by simp) (Ev.now _)))))
    · obtain ⟨r, h1, h2⟩ := ih (i + 1) (by omega)
      refine ⟨r, Ev.up ?_, by rw [h2]; simp⟩
      simp only [slices_IndexFunc_string_of_labelsOk_1.l0, w1' hlt hx]
      rw [hp] at hn
      exact Ev.pos (by omega) (Ev.pos (by omega) (Ev.pos (by omega) (Ev.bind hn (Ev.neg (by simp) h1))))
theorem impl_labelsOk_ev (xs : List ByteArray) (hx : xs.length ≤ 1048576) (hy : ∀ y ∈ xs, y.size ≤ 1048576) : Ev (fun k => impl_labelsOk.f k xs) (labB xs) := by
  simp only [impl_labelsOk.f, labB, slices_ContainsFunc_string_of_labelsOk_1.f, slices_IndexFunc_string_of_labelsOk_1.f]
  by_cases h1 : xs.length < 1
  · refine Ev.pos (by omega) (Ev.const ?_)
    rw [decide_eq_false (by omega)]; simp
  refine Ev.neg (by omega) ?_
  by_cases h2 : xs.length > 4
  · refine Ev.pos (by omega) (Ev.const ?_)
    rw [decide_eq_false (by omega)]; simp
  refine Ev.neg (by omega) ?_
  rw [decide_eq_true (by omega), Bool.true_and]
  refine Ev.bind (impl_AreAscending_ev xs hx) ?_
  refine Ev.cases (fun h => ?_) (fun h => ?_)
  · obtain ⟨r, g1, g2⟩ := IndexFunc_labels xs hx hy
    refine Ev.bind (Ev.bind g1 (Ev.now _)) (Ev.const ?_)
    rw [g2, h]; simp
  · rw [Bool.eq_false_iff.2 h]
    exact Ev.const (by simp)

end Go.Proofs.Ytppgalehaiagaaa.Px
end
section
namespace Go.Proofs.Ytppgalehaiagaaa.Px
open Go.RowKit Go.Proofs.YtppgalehaiagaaaW.PrintWords Go.Proofs.YtppgalehaiagaaaW.PrintLast Go.Proofs.Ytppgalehaiagaaa.Pl Go.Proofs.Ytppgalehaiagaaa.Ext
set_option linter.unusedVariables false
set_option linter.unusedSimpArgs false
mutual
/-- Does a kind stand in a type? -/
def hasT (n : Int) : S33 → Bool
  | ⟨a, _, xs⟩ => hasTS n xs || a == n
def hasTS (n : Int) : List S33 → Bool
  | [] => false
  | x :: r => hasT n x || hasTS n r
end
mutual
/-- How deep is a type? -/
def depT : S33 → Nat
  | ⟨_, _, xs⟩ => depTS xs + 1
def depTS : List S33 → Nat
  | [] => 0
  | x :: r => max (depT x) (depTS r)
end
/-- How many arguments has a kind? -/
def wantT (a : Int) : Int := if a = 1 ∨ a = 2 then 0 else if a = 4 then 1 else if a = 5 then 2 else -1
/-- One node of a right type. -/
def topT (a : Int) (l : List ByteArray) (xs : List S33) : Bool :=
  if a = 3 then decide ((xs.length : Int) = l.length) && (labB l && !(hasTS 5 xs))
  else if a = 4 ∧ xs.length = 1 ∧ hasTS 5 xs = true then false
  else decide ((l.length : Int) = 0) && decide ((xs.length : Int) = wantT a)
mutual
def formT : S33 → Bool
  | ⟨a, l, xs⟩ => formTS xs && topT a l xs
def formTS : List S33 → Bool
  | [] => true
  | x :: r => formT x && formTS r
end
/-- One node, as_ the program looks at it. -/
def topI (plain : Bool) (deep : Int) (a : Int) (l : List ByteArray) (n : Nat) : Bool :=
  (decide (1 ≤ a ∧ a ≤ 5 ∧ deep ≤ 7) && decide ((n : Int) = imPut (imPut (imPut im0 4 1) 5 2) 3 (l.length : Int) a)) && (!(decide (a = 5) && plain) && (!(decide (a = 3) && !(labB l)) && (decide (a = 3) || decide (l.length = 0))))
mutual
def tfT (plain : Bool) (deep : Int) : S33 → Bool
  | ⟨a, l, xs⟩ => topI plain deep a l xs.length && tfTS (plain || (decide (a = 3) || decide (a = 4))) (deep + 1) xs
def tfTS (plain : Bool) (deep : Int) : List S33 → Bool
  | [] => true
  | x :: r => tfT plain deep x && tfTS plain deep r
end
theorem hasT_eq (n : Int) (x : S33) : hasT n x = (hasTS n x.f2 || x.f0 == n) := by cases x; simp only [hasT]
theorem depT_eq (x : S33) : depT x = depTS x.f2 + 1 := by cases x; simp only [depT]
theorem formT_eq (x : S33) : formT x = (formTS x.f2 && topT x.f0 x.f1 x.f2) := by cases x; simp only [formT]
theorem tfT_eq (p : Bool) (d : Int) (x : S33) : tfT p d x = (topI p d x.f0 x.f1 x.f2.length && tfTS (p || (decide (x.f0 = 3) || decide (x.f0 = 4))) (d + 1) x.f2) := by cases x; simp only [tfT]
theorem hasTS_any (n : Int) (xs : List S33) : hasTS n xs = xs.any (hasT n) := by
  induction xs with
  | nil => rfl
  | cons x r ih => simp [hasTS, ih]
theorem formTS_all (xs : List S33) : formTS xs = xs.all formT := by
  induction xs with
  | nil => rfl
  | cons x r ih => simp [formTS, ih]
theorem tfTS_all (p : Bool) (d : Int) (xs : List S33) : tfTS p d xs = xs.all (tfT p d) := by
  induction xs with
  | nil => rfl
  | cons x r ih => simp [tfTS, ih]
theorem depT_le (xs : List S33) (n : Nat) : depTS xs ≤ n ↔ ∀ y ∈ xs, depT y ≤ n := by
  induction xs with
  | nil => simp [depTS]
  | cons x r ih => simp [depTS, Nat.max_le, ih]
theorem depT_nd : ∀ x : S33, depT x ≤ ndType x := by
  refine indTypeI fun x ih => ?_
  rw [depT_eq, ndType_eq]
  have : depTS x.f2 ≤ (x.f2.map ndType).sum := (depT_le _ _).2 fun y hy => Nat.le_trans (ih y hy) (sum_le_of_mem ndType hy)
  omega
theorem many_eq (a : Int) (n : Nat) : imPut (imPut (imPut im0 4 1) 5 2) 3 (n : Int) a = if a = 3 then (n : Int) else if a = 5 then 2 else if a = 4 then 1 else 0 := by
  simp only [imPut, im0]
theorem tfT_iff : ∀ x : S33, ∀ p d, tfT p d x = true ↔ formT x = true ∧ (p = true → hasT 5 x = false) ∧ d + (depT x : Int) ≤ 8 := by
  refine indTypeI fun x ih p d => ?_
  rw [tfT_eq, formT_eq, hasT_eq, depT_eq]
  have hS : ∀ q, tfTS q (d + 1) x.f2 = true ↔ formTS x.f2 = true ∧ (q = true → hasTS 5 x.f2 = false) ∧ (x.f2 = [] ∨ d + (depTS x.f2 : Int) ≤ 7) := by
    intro q
    rw [tfTS_all, formTS_all, hasTS_any, List.all_eq_true, List.all_eq_true]
    constructor
    · intro h
      refine ⟨fun y hy => ((ih y hy q (d + 1)).1 (h y hy)).1, fun hq => ?_, ?_⟩
      · rw [Bool.eq_false_iff]
        intro hc
        obtain ⟨y, hy, h5⟩ := List.any_eq_true.1 hc
        rw [((ih y hy q (d + 1)).1 (h y hy)).2.1 hq] at h5
        exact absurd h5 (by decide)
      · by_cases he : x.f2 = []
        · exact Or.inl he
        refine Or.inr ?_
        have hb : ∀ y ∈ x.f2, (depT y : Int) ≤ 7 - d := fun y hy => by have := ((ih y hy q (d + 1)).1 (h y hy)).2.2; omega
        obtain ⟨y0, hy0⟩ := List.exists_mem_of_ne_nil _ he
        have h0 := hb y0 hy0
        have : depTS x.f2 ≤ (7 - d).toNat := (depT_le _ _).2 fun y hy => by have := hb y hy; omega
        omega
    · intro h y hy
      refine (ih y hy q (d + 1)).2 ⟨h.1 y hy, fun hq => ?_, ?_⟩
      · rw [Bool.eq_false_iff]
        intro hc
        have := h.2.1 hq
        rw [Bool.eq_false_iff] at this
        exact this (List.any_eq_true.2 ⟨y, hy, hc⟩)
      · rcases h.2.2 with he | hd
        · rw [he] at hy; cases hy
        have := (depT_le x.f2 (depTS x.f2)).1 (Nat.le_refl _) y hy
        omega
  rw [Bool.and_eq_true, hS]
  have hlen : x.f2 = [] ↔ x.f2.length = 0 := by cases x.f2 <;> simp
  have hdep : x.f2 = [] → depTS x.f2 = 0 := fun h => by rw [h]; rfl
  have hno : x.f2 = [] → hasTS 5 x.f2 = false := fun h => by rw [h]; rfl
  generalize x.f2 = xs at *
  generalize x.f0 = a at *
  generalize x.f1 = l at *
  simp only [topI, topT, many_eq, wantT]
  by_cases h3 : a = 3
  · subst h3
    simp only [if_true, Bool.and_eq_true, decide_eq_true_eq, Bool.or_eq_true, Bool.not_eq_true', Bool.and_eq_false_iff, decide_eq_false_iff_not, Bool.not_eq_false', Bool.or_eq_false_iff, beq_eq_false_iff_ne, true_or, or_true, true_implies, true_and, and_true, not_true_eq_false, false_or, or_false]
    constructor
    · rintro ⟨⟨⟨⟨_, _, h7⟩, hn⟩, _, hl⟩, hf, hh, hd⟩
      refine ⟨⟨hf, hn, hl, hh⟩, fun _ => ⟨hh, by decide⟩, ?_⟩
      rcases hd with he | hd
      · rw [hdep he]; omega
      · omega
    · rintro ⟨⟨hf, hn, hl, hh⟩, _, hd⟩
      refine ⟨⟨⟨⟨by decide, by decide, by omega⟩, hn⟩, Or.inl (by decide), hl⟩, hf, hh, Or.inr (by omega)⟩
  · by_cases h4 : a = 4
    · subst h4
      simp only [show ¬ ((4 : Int) = 3) by decide, show ¬ ((4 : Int) = 5) by decide, show ¬ ((4 : Int) = 1 ∨ (4 : Int) = 2) by decide, if_false, if_true, Bool.and_eq_true, decide_eq_true_eq, Bool.or_eq_true, Bool.not_eq_true', Bool.and_eq_false_iff, decide_eq_false_iff_not, Bool.not_eq_false', Bool.or_eq_false_iff, beq_eq_false_iff_ne, true_and, false_or, or_true, true_or, not_false_eq_true, and_true, true_implies]
      constructor
      · rintro ⟨⟨⟨⟨_, _, h7⟩, hn⟩, hl⟩, hf, hh, hd⟩
        have h1 : xs.length = 1 := by omega
        have hd' : d + (depTS xs : Int) ≤ 7 := by
          rcases hd with he | hd
          · rw [hlen] at he; omega
          · exact hd
        rw [if_neg (by rintro ⟨_, h⟩; rw [hh] at h; cases h)]
        simp [hf, hl, h1, hh]
        omega
      · rintro ⟨⟨hf, ht⟩, hp, hd⟩
        by_cases hc : xs.length = 1 ∧ hasTS 5 xs = true
        · rw [if_pos hc] at ht; cases ht
        rw [if_neg hc] at ht
        simp at ht
        have h1 : xs.length = 1 := by omega
        have hh : hasTS 5 xs = false := by
          rw [Bool.eq_false_iff]; exact fun h => hc ⟨h1, h⟩
        exact ⟨⟨⟨⟨by decide, by decide, by omega⟩, by omega⟩, by simp [ht.1]⟩, hf, hh, Or.inr (by omega)⟩
    · have e34 : (decide (a = 3) || decide (a = 4)) = false := by simp [h3, h4]
      simp only [h3, h4, if_false, false_and, Bool.and_eq_true, decide_eq_true_eq, Bool.or_eq_true, Bool.not_eq_true', Bool.and_eq_false_iff, decide_eq_false_iff_not, Bool.not_eq_false', Bool.or_eq_false_iff, beq_eq_false_iff_ne, true_or, false_or, true_and, or_false, not_false_eq_true]
      constructor
      · rintro ⟨⟨⟨⟨h1, h5, h7⟩, hn⟩, hp5, hl⟩, hf, hh, hd⟩
        have hl0 : l = [] := by simpa using hl
        have hd' : d + (depTS xs : Int) ≤ 7 := by
          rcases hd with he | hd
          · rw [hdep he]; omega
          · exact hd
        refine ⟨⟨hf, ?_⟩, fun hp => ⟨hh hp, ?_⟩, by omega⟩
        · rw [hl0]
          simp
          split <;> (split at hn <;> omega)
        · intro h
          rcases hp5 with h' | h'
          · exact h' h
          · rw [h'] at hp; cases hp
      · rintro ⟨⟨hf, ht⟩, hp, hd⟩
        simp at ht
        have hl0 : l = [] := ht.1
        have hw := ht.2
        refine ⟨⟨⟨⟨?_, ?_, by omega⟩, ?_⟩, ?_, by simp [hl0]⟩, hf, fun h => (hp h).1, Or.inr (by omega)⟩
        · split at hw <;> (try split at hw) <;> omega
        · split at hw <;> (try split at hw) <;> omega
        · split at hw <;> (try split at hw) <;> (try split) <;> omega
        · by_cases h5 : a = 5
          · refine Or.inr ?_
            rw [Bool.eq_false_iff]
            exact fun h => (hp h).2 h5
          · exact Or.inl h5
theorem spec_l3Has_ev (n : Int) : ∀ x : S33, SmType x → Ev (fun k => spec_l3Has.f k x.f0 x.f1 x.f2 n) (hasT n x) := by
  refine indTypeI fun x ih hs => ?_
  rw [hasT_eq, hasTS_any]
  refine Ev.up ?_
  simp only [spec_l3Has.f]
  refine any_ev x.f2 z33 (hasT n) _ (fun k i => spec_l3Has.l0 k n (i : Int) x.f0 x.f1 x.f2) (fun k i => spec_l3Has.f k (rd_T33 x.f2 (i : Int)).f0 (rd_T33 x.f2 (i : Int)).f1 (rd_T33 x.f2 (i : Int)).f2 n) (fun k i hi => ?_) ?_ (fun i hi => ih (x.f2.getD i z33) (mem_getD x.f2 z33 i hi) (hs.p2.2 _ (mem_getD x.f2 z33 i hi)))
  · simp only [spec_l3Has.l0]
    rw [if_pos (by omega), if_pos (by omega), w1' hi hs.p2.1]
  · refine Ev.up ?_
    simp only [spec_l3Has.l0]
    exact Ev.neg (by omega) (Ev.now _)

end Go.Proofs.Ytppgalehaiagaaa.Px
end
section
namespace Go.Proofs.Ytppgalehaiagaaa.Px
open Go.RowKit Go.Proofs.Ytppgalehaiagaaa.Ext Go.Proofs.YtppgalehaiagaaaW.PrintWords Go.Proofs.YtppgalehaiagaaaW.PrintLast Go.Proofs.YtppgalehaiagaaaW.PrintMore
attribute [local go_sem] max2_int min2_int max_two min_two max_three min_three max_four min_four   -- for this text's walks alone
set_option linter.unusedVariables false
set_option linter.unusedSimpArgs false

end Go.Proofs.Ytppgalehaiagaaa.Px
end
section
namespace Go.Proofs.Ytppgalehaiagaaa.Px
open Go.RowKit Go.Proofs.Ytppgalehaiagaaa.Ext Go.Proofs.YtppgalehaiagaaaW.PrintWords Go.Proofs.YtppgalehaiagaaaW.PrintLast Go.Proofs.YtppgalehaiagaaaW.PrintMore
attribute [local go_sem] max2_int min2_int max_two min_two max_three min_three max_four min_four   -- for this text's walks alone
set_option linter.unusedVariables false
set_option linter.unusedSimpArgs false

end Go.Proofs.Ytppgalehaiagaaa.Px
end
section
namespace Go.Proofs.Ytppgalehaiagaaa.Px
open Go.RowKit Go.Proofs.Ytppgalehaiagaaa.Ext Go.Proofs.YtppgalehaiagaaaW.PrintWords Go.Proofs.YtppgalehaiagaaaW.PrintLast Go.Proofs.YtppgalehaiagaaaW.PrintMore
attribute [local go_sem] max2_int min2_int max_two min_two max_three min_three max_four min_four   -- for this text's walks alone
set_option linter.unusedVariables false
set_option linter.unusedSimpArgs false

end Go.Proofs.Ytppgalehaiagaaa.Px
end
section
namespace Go.Proofs.Ytppgalehaiagaaa.Px
open Go.RowKit Go.Proofs.YtppgalehaiagaaaW.PrintWords Go.Proofs.YtppgalehaiagaaaW.PrintLast Go.Proofs.Ytppgalehaiagaaa.Pl Go.Proofs.Ytppgalehaiagaaa.Ext
set_option linter.unusedVariables false
set_option linter.unusedSimpArgs false
theorem spec_l1Max_eq (a b : Int) : spec_l1Max.f a b = some (mx a b) := by
  rw [mx_eq]; unfold spec_l1Max.f; split <;> rfl

end Go.Proofs.Ytppgalehaiagaaa.Px
end
section
namespace Go.Proofs.Ytppgalehaiagaaa.Px
open Go.RowKit Go.Proofs.YtppgalehaiagaaaW.PrintWords Go.Proofs.YtppgalehaiagaaaW.PrintLast Go.Proofs.Ytppgalehaiagaaa.Pl Go.Proofs.Ytppgalehaiagaaa.Ext
set_option linter.unusedVariables false
set_option linter.unusedSimpArgs false
theorem impl_SizeOfType_ev : ∀ x : S33, SmType x → ndType x ≤ 1048577 → Ev (fun k => impl_SizeOfType.f k x.f0 x.f1 x.f2) (ndType x : Int) := by
  refine indTypeI fun x ih hs hn => ?_
  refine Ev.up ?_
  simp only [impl_SizeOfType.f]
  rw [ndType_eq] at hn ⊢
  refine Ev.eq (fold_loop x.f2.length (fun k i => impl_SizeOfType.f k (rd_T33 x.f2 (i : Int)).f0 (rd_T33 x.f2 (i : Int)).f1 (rd_T33 x.f2 (i : Int)).f2) (fun k s i => impl_SizeOfType.l0 k s x.f2 (x.f2.length : Int) (i : Int)) (fun s t => wrap64 (s + t)) (fun i => (ndType (x.f2.getD i z33) : Int)) id
    (fun k s i hi => by simp only [impl_SizeOfType.l0]; rw [if_pos (by omega), if_pos (by omega), if_pos (by omega), w1' hi hs.p2.1])
    (fun k s => by simp only [impl_SizeOfType.l0]; rw [if_neg (by omega)]; rfl)
    (fun i hi => ih (x.f2.getD i z33) (mem_getD x.f2 z33 i hi) (hs.p2.2 _ (mem_getD x.f2 z33 i hi)) (by have := sum_le_of_mem ndType (mem_getD x.f2 z33 i hi); omega)) x.f2.length 0 1 (by omega)) ?_
  rw [foldl_range (fun (s : Int) y => wrap64 (s + (ndType y : Int))) z33 x.f2 1]
  exact fold_wrap ndType x.f2 1 (by omega)

end Go.Proofs.Ytppgalehaiagaaa.Px
end
section
namespace Go.Proofs.Ytppgalehaiagaaa.Px
open Go.RowKit Go.Proofs.YtppgalehaiagaaaW.PrintWords Go.Proofs.YtppgalehaiagaaaW.PrintLast Go.Proofs.Ytppgalehaiagaaa.Pl Go.Proofs.Ytppgalehaiagaaa.Ext
set_option linter.unusedVariables false
set_option linter.unusedSimpArgs false
theorem spec_l3Form_ev : ∀ x : S33, SmType x → Ev (fun k => spec_l3Form.f k x.f0 x.f1 x.f2) (formT x) := by
 refine indTypeI fun x ih hs => ?_
 have j2 : ∀ b : Bool, (b = true ↔ (x.f0 = 1 ∨ x.f0 = 2)) → Ev (fun k => spec_l3Form.j2 k (-1) x.f0 b x.f0 x.f1 x.f2) (decide ((x.f1.length : Int) = 0) && decide ((x.f2.length : Int) = wantT x.f0)) := by
  intro b hb
  refine Ev.up ?_
  simp only [spec_l3Form.j2]
  unfold wantT
  refine Ev.cases (fun h => ?_) (fun h => ?_)
  ·rw [if_pos (hb.1 h)]
   exact Ev.cases (fun g => Ev.const (by rw [decide_eq_true g, Bool.true_and]; rfl)) (fun g => Ev.const (by rw [decide_eq_false g]; rfl))
  ·rw [if_neg (fun g => h (hb.2 g))]
   refine Ev.cases (fun g4 => ?_) (fun g4 => ?_)
   ·rw [if_pos g4]; exact Ev.cases (fun g => Ev.const (by rw [decide_eq_true g, Bool.true_and]; rfl)) (fun g => Ev.const (by rw [decide_eq_false g]; rfl))
   rw [if_neg g4]
   refine Ev.cases (fun g5 => ?_) (fun g5 => ?_)
   ·rw [if_pos g5]; exact Ev.cases (fun g => Ev.const (by rw [decide_eq_true g, Bool.true_and]; rfl)) (fun g => Ev.const (by rw [decide_eq_false g]; rfl))
   ·rw [if_neg g5]; exact Ev.cases (fun g => Ev.const (by rw [decide_eq_true g, Bool.true_and]; rfl)) (fun g => Ev.const (by rw [decide_eq_false g]; rfl))
 have j1 : ∀ b : Bool, Ev (fun k => spec_l3Form.j1 k b x.f0 x.f1 x.f2) (!b && (decide ((x.f1.length : Int) = 0) && decide ((x.f2.length : Int) = wantT x.f0))) := by
  intro b
  refine Ev.up ?_
  simp only [spec_l3Form.j1]
  refine Ev.cases (fun h => Ev.const (by simp [h])) (fun h => ?_)
  rw [Bool.eq_false_iff.2 h, Bool.not_false, Bool.true_and]
  refine Ev.cases (fun h1 => j2 _ (by simp [h1])) (fun h1 => j2 _ (by simp [h1]))
 rw [formT_eq, formTS_all]
 refine Ev.up ?_
 simp only [spec_l3Form.f]
 refine all_ev x.f2 z33 formT _ (fun k i => spec_l3Form.l0 k (i : Int) x.f0 x.f1 x.f2) (fun k i => spec_l3Form.f k (rd_T33 x.f2 (i : Int)).f0 (rd_T33 x.f2 (i : Int)).f1 (rd_T33 x.f2 (i : Int)).f2) (fun k i hi => ?_) ?_ (fun i hi => ih (x.f2.getD i z33) (mem_getD x.f2 z33 i hi) (hs.p2.2 _ (mem_getD x.f2 z33 i hi)))
 ·simp only [spec_l3Form.l0]
  rw [if_pos (by omega), if_pos (by omega), w1' hi hs.p2.1]
 ·refine Ev.up ?_
  simp only [spec_l3Form.l0]
  refine Ev.neg (by omega) ?_
  unfold topT
  refine Ev.cases (fun h3 => ?_) (fun h3 => ?_)
  ·rw [if_pos h3]
   refine Ev.cases (fun hl => ?_) (fun hl => ?_)
   ·rw [decide_eq_true hl, Bool.true_and]
    refine Ev.bind (spec_l3Labels_ev x.f1 hs.p1.1 hs.p1.2) ?_
    refine Ev.cases (fun hb => ?_) (fun hb => ?_)
    ·rw [hb, Bool.true_and]
     refine Ev.bind (spec_l3Has_ev 5 x hs) (Ev.const ?_)
     rw [hasT_eq, h3]; simp
    ·rw [Bool.eq_false_iff.2 hb]; exact Ev.now _
   ·rw [decide_eq_false hl]; exact Ev.now _
  ·rw [if_neg h3]
   refine Ev.cases (fun h4 => ?_) (fun h4 => ?_)
   ·refine Ev.cases (fun h1 => Ev.pos (by omega) ?_) (fun h1 => ?_)
    ·have hl1 : x.f2.length = 1 := by omega
     have hh := spec_l3Has_ev 5 (x.f2.getD 0 z33) (hs.p2.2 _ (mem_getD x.f2 z33 0 (by omega)))
     refine Ev.bind hh ?_
     have e : hasT 5 (x.f2.getD 0 z33) = hasTS 5 x.f2 := by
      obtain ⟨y, hy⟩ := List.length_eq_one_iff.1 hl1
      rw [hy]; simp [hasTS]
     rw [e]
     refine Ev.eq (j1 _) ?_
     cases hc : hasTS 5 x.f2
     ·rw [if_neg (by simp)]; rfl
     ·rw [if_pos ⟨h4, hl1, rfl⟩]; rfl
    ·rw [if_neg (by omega)]
     exact j1 false
   ·rw [if_neg (fun h => h4 h.1)]
    exact j1 false
theorem impl_typeForm_ev : ∀ x : S33, SmType x → ∀ p d, 0 ≤ d → d ≤ 8 → Ev (fun k => impl_typeForm.f k x.f0 x.f1 x.f2 p d) (tfT p d x) := by
 refine indTypeI fun x ih hs p d hd0 hd1 => ?_
 have wx := wf64 hs.p0
 have hl1 := hs.p1.1
 have j4 : d ≤ 7 → ∀ q, Ev (fun k => impl_typeForm.j4 k d q x.f2) (tfTS q (d + 1) x.f2) := by
  intro hd7 q
  refine Ev.up ?_
  simp only [impl_typeForm.j4]
  refine Ev.eq (all_ev x.f2 z33 (tfT q (d + 1)) true (fun k i => impl_typeForm.l0 k d q (x.f2.length : Int) (i : Int) x.f2) (fun k i => impl_typeForm.f k (rd_T33 x.f2 (i : Int)).f0 (rd_T33 x.f2 (i : Int)).f1 (rd_T33 x.f2 (i : Int)).f2 q (d + 1)) (fun k i hi => ?_) ?_ (fun i hi => ?_)) (by rw [tfTS_all, Bool.and_true])
  ·simp only [impl_typeForm.l0]
   rw [if_pos (by omega), if_pos (by omega), if_pos (by omega), w1' hi hs.p2.1, w64 (a := d + 1) (by omega) (by omega)]
  ·refine Ev.up ?_
   simp only [impl_typeForm.l0]
   exact Ev.neg (by omega) (Ev.now _)
  ·exact ih (x.f2.getD i z33) (mem_getD x.f2 z33 i hi) (hs.p2.2 _ (mem_getD x.f2 z33 i hi)) q (d + 1) (by omega) (by omega)
 have j3 : d ≤ 7 → Ev (fun k => impl_typeForm.j3 k p d x.f0 x.f2) (tfTS (p || (decide (x.f0 = 3) || decide (x.f0 = 4))) (d + 1) x.f2) := by
  intro hd7
  refine Ev.up ?_
  simp only [impl_typeForm.j3]
  refine Ev.cases (fun h => ?_) (fun h => ?_)
  ·rw [h, Bool.true_or]; exact j4 hd7 true
  ·rw [Bool.eq_false_iff.2 h, Bool.false_or]
   refine Ev.cases (fun h3 => ?_) (fun h3 => ?_)
   ·rw [decide_eq_true h3, Bool.true_or]; exact j4 hd7 true
   ·rw [decide_eq_false h3, Bool.false_or]; exact j4 hd7 _
 have j2 : d ≤ 7 → ∀ b : Bool, Ev (fun k => impl_typeForm.j2 k p d b x.f0 x.f1 x.f2) (!b && ((decide (x.f0 = 3) || decide (x.f1.length = 0)) && tfTS (p || (decide (x.f0 = 3) || decide (x.f0 = 4))) (d + 1) x.f2)) := by
  intro hd7 b
  refine Ev.up ?_
  simp only [impl_typeForm.j2]
  refine Ev.cases (fun h => Ev.const (by rw [h]; rfl)) (fun h => ?_)
  rw [Bool.eq_false_iff.2 h, Bool.not_false, Bool.true_and]
  refine Ev.cases (fun h3 => ?_) (fun h3 => ?_)
  ·have := j3 hd7
   rw [decide_eq_true h3] at this ⊢
   exact this
  ·rw [decide_eq_false h3, Bool.false_or]
   refine Ev.cases (fun hl => Ev.const ?_) (fun hl => ?_)
   ·rw [decide_eq_false (by omega)]; rfl
   ·rw [decide_eq_true (by omega), Bool.true_and]
    have := j3 hd7
    rw [decide_eq_false h3] at this
    exact this
 have j1 : d ≤ 7 → ∀ b : Bool, Ev (fun k => impl_typeForm.j1 k p d b x.f0 x.f1 x.f2) (!b && (!(decide (x.f0 = 3) && !(labB x.f1)) && ((decide (x.f0 = 3) || decide (x.f1.length = 0)) && tfTS (p || (decide (x.f0 = 3) || decide (x.f0 = 4))) (d + 1) x.f2))) := by
  intro hd7 b
  refine Ev.up ?_
  simp only [impl_typeForm.j1]
  refine Ev.cases (fun h => Ev.const (by rw [h]; rfl)) (fun h => ?_)
  rw [Bool.eq_false_iff.2 h, Bool.not_false, Bool.true_and]
  refine Ev.cases (fun h3 => ?_) (fun h3 => ?_)
  ·refine Ev.bind (impl_labelsOk_ev x.f1 hs.p1.1 hs.p1.2) ?_
   have := j2 hd7 (!(labB x.f1))
   rw [decide_eq_true h3] at this ⊢
   rw [Bool.true_and]
   exact this
  ·have := j2 hd7 false
   rw [decide_eq_false h3] at this ⊢
   rw [Bool.false_and]
   exact this
 have j0 : ∀ b : Bool, (b = false → d ≤ 7) → Ev (fun k => impl_typeForm.j0 k p d b x.f0 x.f1 x.f2) (!b && (!(decide (x.f0 = 5) && p) && (!(decide (x.f0 = 3) && !(labB x.f1)) && ((decide (x.f0 = 3) || decide (x.f1.length = 0)) && tfTS (p || (decide (x.f0 = 3) || decide (x.f0 = 4))) (d + 1) x.f2)))) := by
  intro b hb
  refine Ev.up ?_
  simp only [impl_typeForm.j0]
  refine Ev.cases (fun h => Ev.const (by rw [h]; rfl)) (fun h => ?_)
  have hd7 := hb (Bool.eq_false_iff.2 h)
  rw [Bool.eq_false_iff.2 h, Bool.not_false, Bool.true_and]
  refine Ev.cases (fun h5 => ?_) (fun h5 => ?_)
  ·rw [decide_eq_true h5, Bool.true_and]; exact j1 hd7 p
  ·rw [decide_eq_false h5, Bool.false_and]; exact j1 hd7 false
 rw [tfT_eq]
 unfold topI
 refine Ev.up ?_
 simp only [impl_typeForm.f]
 refine Ev.pos (by omega) (Ev.pos (by omega) (Ev.pos (by omega) (Ev.pos (by omega) ?_)))
 have no : ¬ (1 ≤ x.f0 ∧ x.f0 ≤ 5 ∧ d ≤ 7) → ∀ A B C : Bool, Ev (fun k => impl_typeForm.j0 k p d true x.f0 x.f1 x.f2) (((decide (1 ≤ x.f0 ∧ x.f0 ≤ 5 ∧ d ≤ 7) && A) && B) && C) := by
  intro h A B C
  rw [decide_eq_false h]
  exact j0 true (fun h => by cases h)
 refine Ev.cases (fun h1 => no (by omega) _ _ _) (fun h1 => ?_)
 refine Ev.cases (fun h2 => no (by omega) _ _ _) (fun h2 => ?_)
 refine Ev.cases (fun h3 => no (by omega) _ _ _) (fun h3 => ?_)
 rw [decide_eq_true (by omega : 1 ≤ x.f0 ∧ x.f0 ≤ 5 ∧ d ≤ 7), Bool.true_and]
 refine Ev.eq (j0 _ (fun _ => by omega)) ?_
 have e : ((x.f2.length : Int) != imPut (imPut (imPut im0 4 1) 5 2) 3 (x.f1.length : Int) x.f0) = !(decide ((x.f2.length : Int) = imPut (imPut (imPut im0 4 1) 5 2) 3 (x.f1.length : Int) x.f0)) := rfl
 rw [e, Bool.not_not]
 simp only [Bool.and_assoc]
theorem spec_l3Left_ev : ∀ x : S33, SmType x → ∀ n : Int, 0 ≤ n → n ≤ 1048577 → ∃ r, Ev (fun k => spec_l3Left.f k x.f0 x.f1 x.f2 n) r ∧ ((ndType x : Int) ≤ n → r = n - ndType x) ∧ (n < ndType x → r < 0) ∧ r ≤ 1048577 := by
 refine indTypeI fun x ih hs n hn hn2 => ?_
 rw [ndType_eq]
 have loop : ∀ m i s, i + m = x.f2.length → s ≤ 1048577 → ∃ r, Ev (fun k => spec_l3Left.l0 k s (i : Int) x.f0 x.f1 x.f2) r ∧ (0 ≤ s → (((((x.f2.drop i).map ndType).sum : Nat) : Int) ≤ s → r = s - (((x.f2.drop i).map ndType).sum : Nat)) ∧ (s < (((x.f2.drop i).map ndType).sum : Nat) → r < 0)) ∧ (s < 0 → r < 0) ∧ r ≤ 1048577 := by
  intro m
  induction m with
  | zero =>
   intro i s hi hs1
   refine ⟨s, Ev.up ?_, fun h => ?_, id, hs1⟩
   ·simp only [spec_l3Left.l0]; exact Ev.neg (by omega) (Ev.now _)
   ·rw [List.drop_of_length_le (by omega)]; simp <;> omega
  | succ m ihm =>
   intro i s hi hs1
   have hlt : i < x.f2.length := by omega
   have e : x.f2.getD i z33 = x.f2[i] := by simp [List.getD_eq_getElem?_getD, hlt]
   by_cases h0 : 0 ≤ s
   ·obtain ⟨r, h1, h2, h3, h4⟩ := ih (x.f2.getD i z33) (mem_getD x.f2 z33 i hlt) (hs.p2.2 _ (mem_getD x.f2 z33 i hlt)) s h0 hs1
    obtain ⟨u, g1, g2, g3, g4⟩ := ihm (i + 1) r (by omega) h4
    refine ⟨u, Ev.up ?_, fun _ => ?_, fun h => by omega, g4⟩
    ·simp only [spec_l3Left.l0, w1' hlt hs.p2.1]
     exact Ev.pos (by omega) (Ev.pos h0 (Ev.pos (by omega) (Ev.bind h1 g1)))
    ·rw [List.drop_eq_getElem_cons hlt, List.map_cons, List.sum_cons, ← e]
     by_cases hc : (ndType (x.f2.getD i z33) : Int) ≤ s
     ·have := h2 hc
      have := g2 (by omega)
      omega
     ·have := h3 (by omega)
      have := g3 (by omega)
      omega
   ·refine ⟨s, Ev.up ?_, fun h => absurd h h0, id, hs1⟩
    simp only [spec_l3Left.l0]
    exact Ev.pos (by omega) (Ev.neg (by omega) (Ev.now _))
 obtain ⟨r, h1, h2, h3, h4⟩ := loop x.f2.length 0 (n - 1) (by omega) (by omega)
 refine ⟨r, Ev.up ?_, ?_, ?_, h4⟩
 ·simp only [spec_l3Left.f]
  rw [w64 (a := n - 1) (by omega) (by omega)]
  exact h1
 ·intro h; have := h2 (by omega); simp at this; omega
 ·intro h
  by_cases h0 : 0 ≤ n - 1
  ·have := h2 h0; simp at this; omega
  ·exact h3 (by omega)

end Go.Proofs.Ytppgalehaiagaaa.Px
end
section
namespace Go.Proofs.Ytppgalehaiagaaa.Px
open Go.RowKit Go.Proofs.YtppgalehaiagaaaW.PrintWords Go.Proofs.YtppgalehaiagaaaW.PrintLast Go.Proofs.Ytppgalehaiagaaa.Pl Go.Proofs.Ytppgalehaiagaaa.Ext
set_option linter.unusedVariables false
set_option linter.unusedSimpArgs false
theorem mx_nat (a b : Nat) : mx (a : Int) (b : Int) = ((max a b : Nat) : Int) := by rw [mx_eq]; split <;> omega
theorem fold_mx : ∀ (xs : List S33) (s : Nat), xs.foldl (fun (s : Int) y => mx s (depT y : Int)) (s : Int) = ((max s (depTS xs) : Nat) : Int)
  | [], s => by simp [depTS]
  | x :: r, s => by
    rw [List.foldl_cons, mx_nat, fold_mx r]
    simp only [depTS]
    congr 1
    omega
theorem spec_DepthOfType_ev : ∀ x : S33, SmType x → ndType x ≤ 1048577 → Ev (fun k => spec_DepthOfType.f k x.f0 x.f1 x.f2) (depT x : Int) := by
  refine indTypeI fun x ih hs hn => ?_
  have hd := depT_nd x
  rw [ndType_eq] at hn
  refine Ev.up ?_
  simp only [spec_DepthOfType.f]
  refine Ev.eq (fold_loop x.f2.length (fun k i => spec_DepthOfType.f k (rd_T33 x.f2 (i : Int)).f0 (rd_T33 x.f2 (i : Int)).f1 (rd_T33 x.f2 (i : Int)).f2) (fun k s i => spec_DepthOfType.l0 k s (i : Int) x.f0 x.f1 x.f2) mx (fun i => (depT (x.f2.getD i z33) : Int)) (fun s => wrap64 (s + 1))
    (fun k s i hi => by simp only [spec_DepthOfType.l0, spec_l1Max_eq, Option.bind_some]; rw [if_pos (by omega), if_pos (by omega), w1' hi hs.p2.1])
    (fun k s => by simp only [spec_DepthOfType.l0]; rw [if_neg (by omega)])
    (fun i hi => ih (x.f2.getD i z33) (mem_getD x.f2 z33 i hi) (hs.p2.2 _ (mem_getD x.f2 z33 i hi)) (by have := sum_le_of_mem ndType (mem_getD x.f2 z33 i hi); omega)) x.f2.length 0 0 (by omega)) ?_
  rw [foldl_range (fun (s : Int) y => mx s (depT y : Int)) z33 x.f2 0]
  have e := fold_mx x.f2 0
  rw [depT_eq] at hd ⊢
  rw [ndType_eq] at hd
  rw [show (0 : Int) = ((0 : Nat) : Int) from rfl, e, w64 (by omega) (by omega)]
  omega
/-- Is a type valid? -/
def vT (x : S33) : Bool := decide (ndType x ≤ 24) && (decide (depT x ≤ 7) && formT x)
theorem spec_IsValidType_ev (x : S33) (hs : SmType x) (hn : ndType x ≤ 1048577) : Ev (fun k => spec_IsValidType.f k x.f0 x.f1 x.f2) (vT x) := by
  obtain ⟨r, h1, h2, h3, _⟩ := spec_l3Left_ev x hs 24 (by decide) (by decide)
  simp only [spec_IsValidType.f, vT]
  refine Ev.bind h1 ?_
  by_cases hc : ndType x ≤ 24
  · have := h2 (by omega)
    rw [decide_eq_true hc, Bool.true_and]
    refine Ev.pos (by omega) (Ev.bind (spec_DepthOfType_ev x hs hn) ?_)
    refine Ev.cases (fun hd => ?_) (fun hd => ?_)
    · rw [decide_eq_true (by omega), Bool.true_and]
      exact Ev.bind (spec_l3Form_ev x hs) (Ev.now _)
    · rw [decide_eq_false (by omega)]; exact Ev.now _
  · have := h3 (by omega)
    rw [decide_eq_false hc]
    exact Ev.neg (by omega) (Ev.now _)
theorem impl_IsValidType_ev (x : S33) (hs : SmType x) (hn : ndType x ≤ 1048577) : Ev (fun k => impl_IsValidType.f k x.f0 x.f1 x.f2) (vT x) := by
  simp only [impl_IsValidType.f, vT]
  refine Ev.bind (impl_typeForm_ev x hs false 1 (by decide) (by decide)) ?_
  have e := tfT_iff x false 1
  refine Ev.cases (fun h => ?_) (fun h => ?_)
  · obtain ⟨h1, _, h2⟩ := e.1 h
    refine Ev.bind (impl_SizeOfType_ev x hs hn) (Ev.const ?_)
    rw [h1, decide_eq_true (by omega : depT x ≤ 7)]
    simp
    omega
  · refine Ev.const ?_
    cases hf : formT x
    · simp
    · have : ¬ depT x ≤ 7 := fun hd => h (e.2 ⟨hf, fun hp => absurd hp (by decide), by omega⟩)
      rw [decide_eq_false this]; simp
end Go.Proofs.Ytppgalehaiagaaa.Px
end
