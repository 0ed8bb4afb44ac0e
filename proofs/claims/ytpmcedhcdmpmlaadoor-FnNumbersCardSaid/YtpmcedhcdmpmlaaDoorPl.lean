/- Plain words for the pure statements: what a function with rounds comes to, loops, cuts of a budget. No condition. -/
import Derived.Test.YtpmcedhcdmpmlaaDoorWWords
import Derived.Test.YtpmcedhcdmpmlaaDoorWMore
namespace Go.Proofs.YtpmcedhcdmpmlaaDoor.Pl
open Go.RowKit Go.Proofs.YtpmcedhcdmpmlaaDoorW.PrintWords
set_option linter.unusedVariables false
theorem Ev.up {α : Type} {g : Nat → Option α} {r : α} (h : Ev (fun k => g (k + 1)) r) : Ev g r := Ev.step (f := fun k => g (k + 1)) (fun _ => rfl) h
theorem Ev.pos {α : Type} {A B : Nat → Option α} {r : α} {c : Prop} [Decidable c] (hc : c) (h : Ev A r) : Ev (fun n => if c then A n else B n) r :=
  Ev.congr (f := A) (fun k => by rw [if_pos hc]) h
theorem Ev.neg {α : Type} {A B : Nat → Option α} {r : α} {c : Prop} [Decidable c] (hc : ¬ c) (h : Ev B r) : Ev (fun n => if c then A n else B n) r :=
  Ev.congr (f := B) (fun k => by rw [if_neg hc]) h
theorem Ev.cases {α : Type} {A B : Nat → Option α} {r : α} {c : Prop} [Decidable c] (h1 : c → Ev A r) (h2 : ¬ c → Ev B r) : Ev (fun n => if c then A n else B n) r := by
  by_cases hc : c
  · exact Ev.pos hc (h1 hc)
  · exact Ev.neg hc (h2 hc)
theorem Ev.eq {α : Type} {g : Nat → Option α} {r r' : α} (h : Ev g r) (e : r = r') : Ev g r' := e ▸ h
theorem Ev.const {α : Type} {a r : α} (e : a = r) : Ev (fun _ => some a) r := by subst e; exact Ev.now _
theorem Ev.none_bind {α β : Type} {a : α} {f : Nat → α → Option β} {r : β} (h : Ev (fun n => f n a) r) : Ev (fun n => (some a).bind (f n)) r := h
/-- A call without rounds. -/
theorem Ev.fix {α β : Type} {g : Option α} {a : α} {f : Nat → α → Option β} {r : β} (hg : g = some a) (h : Ev (fun n => f n a) r) : Ev (fun n => g.bind (f n)) r := by subst hg; exact h
theorem w1 {i n : Nat} (h : i < n) (hn : n ≤ maxLen) : wrap64 ((i : Int) + 1) = ((i + 1 : Nat) : Int) := by
  have : n ≤ 9223372036854775807 := hn
  unfold wrap64
  omega
theorem w1' {i n : Nat} (h : i < n) (hn : n ≤ 1048576) : wrap64 ((i : Int) + 1) = ((i + 1 : Nat) : Int) := w1 h (by unfold maxLen; omega)
theorem w64 {a : Int} (h : -9223372036854775808 ≤ a) (h2 : a ≤ 9223372036854775807) : wrap64 a = a := by unfold wrap64; omega
theorem wf64 {a : Int} (h : (Lit.int .i64 a).wf = true) : -9223372036854775808 ≤ a ∧ a ≤ 9223372036854775807 := by
  have h1 := of_decide_eq_true ((Bool.and_eq_true _ _).mp h).1
  have h2 := of_decide_eq_true ((Bool.and_eq_true _ _).mp h).2
  exact ⟨h1, h2⟩
/-- What is left of a budget, or -1. -/
def cut (n : Nat) (left : Int) : Int := if (n : Int) ≤ left then left - n else -1
theorem cut_zero {left : Int} (h : 0 ≤ left) : cut 0 left = left := by unfold cut; rw [if_pos (by omega)]; omega
theorem cut_neg {n : Nat} {left : Int} : cut n left < 0 ↔ ¬ ((n : Int) ≤ left) := by
  unfold cut
  split <;> omega
theorem cut_le {n : Nat} {left : Int} (h : 0 ≤ left) : cut n left ≤ left := by unfold cut; split <;> omega
theorem cut_add {m n : Nat} {left : Int} (h : 0 ≤ cut m left) : cut n (cut m left) = cut (m + n) left := by
  unfold cut at *
  split at h
  · rename_i h1
    simp only [if_pos h1]
    by_cases h2 : (n : Int) ≤ left - m
    · rw [if_pos h2, if_pos (by omega)]; omega
    · rw [if_neg h2, if_neg (by omega)]
  · omega
theorem cut_add' {m n : Nat} {left : Int} (h : cut m left < 0) : cut (m + n) left = -1 := by
  have := cut_neg.1 h
  unfold cut
  rw [if_neg (by omega)]
/-- 'left -= n; if left < 0 { return -1 }' -/
theorem cut_sub {n : Nat} {left : Int} (h : 0 ≤ left) (hl : left ≤ 1048576) (hn : n ≤ maxLen) : (wrap64 (left - (n : Int)) < 0 ↔ cut n left < 0) ∧ (0 ≤ cut n left → wrap64 (left - (n : Int)) = cut n left) := by
  have hn' : n ≤ 9223372036854775807 := hn
  have e : wrap64 (left - (n : Int)) = left - n := w64 (by omega) (by omega)
  rw [e, cut_neg]
  unfold cut
  constructor
  · omega
  · intro h2
    split at h2
    · rename_i h3; rw [if_pos h3]
    · omega
def sumF (W : Nat → Nat) : Nat → Nat → Nat
  | _, 0 => 0
  | i, m + 1 => W i + sumF W (i + 1) m
theorem sz_loop (n : Nat) (X : Nat → Nat → Int → Option Int) (L : Nat → Int → Nat → Option Int) (W : Nat → Nat)
    (h1 : ∀ k left i, i < n → L (k + 1) left i = (X k i left).bind fun t => if t < 0 then some (-1) else L k t (i + 1))
    (h2 : ∀ k left, L (k + 1) left n = some left)
    (hX : ∀ i left, i < n → 0 ≤ left → left ≤ 1048576 → Ev (fun k => X k i left) (cut (W i) left)) :
    ∀ m i left, i + m = n → 0 ≤ left → left ≤ 1048576 → Ev (fun k => L k left i) (cut (sumF W i m) left) := by
  intro m
  induction m with
  | zero =>
    intro i left hi h0 hl
    obtain rfl : i = n := by omega
    refine Ev.step (h2 · left) ?_
    exact Ev.const (cut_zero h0).symm
  | succ m ih =>
    intro i left hi h0 hl
    refine Ev.step (fun k => h1 k left i (by omega)) (Ev.bind (hX i left (by omega) h0 hl) ?_)
    by_cases hc : cut (W i) left < 0
    · exact Ev.pos hc (Ev.const (cut_add' hc).symm)
    · refine Ev.neg hc (Ev.eq (ih (i + 1) _ (by omega) (by omega) ?_) (cut_add (by omega)))
      have := cut_le (n := W i) h0
      omega
theorem sz_loop' (n : Nat) (L : Nat → Int → Nat → Option Int) (W : Nat → Nat)
    (h1 : ∀ k left i, i < n → 0 ≤ left → left ≤ 1048576 → L (k + 1) left i = if cut (W i) left < 0 then some (-1) else L k (cut (W i) left) (i + 1))
    (h2 : ∀ k left, L (k + 1) left n = some left) :
    ∀ m i left, i + m = n → 0 ≤ left → left ≤ 1048576 → Ev (fun k => L k left i) (cut (sumF W i m) left) := by
  intro m
  induction m with
  | zero =>
    intro i left hi h0 hl
    obtain rfl : i = n := by omega
    refine Ev.step (h2 · left) ?_
    exact Ev.const (cut_zero h0).symm
  | succ m ih =>
    intro i left hi h0 hl
    refine Ev.step (fun k => h1 k left i (by omega) h0 hl) ?_
    by_cases hc : cut (W i) left < 0
    · exact Ev.pos hc (Ev.const (cut_add' hc).symm)
    · refine Ev.neg hc (Ev.eq (ih (i + 1) _ (by omega) (by omega) ?_) (cut_add (by omega)))
      have := cut_le (n := W i) h0
      omega
theorem Ev.map {α β : Type} {g : Nat → Option α} {a : α} (f : α → β) (h : Ev g a) : Ev (fun k => (g k).map f) (f a) := by
  obtain ⟨K, hK⟩ := h
  exact ⟨K, fun k hk => by show (g k).map f = _; rw [hK k hk]; rfl⟩
theorem to_loop {α : Type} (n : Nat) (X : Nat → Nat → Option α) (L : Nat → List α → Nat → Option (List α)) (v : Nat → α)
    (h1 : ∀ k out i, i < n → out.length = n → L (k + 1) out i = (X k i).bind fun t => L k (out.set i t) (i + 1))
    (h2 : ∀ k out, L (k + 1) out n = some out)
    (hX : ∀ i, i < n → Ev (fun k => X k i) (v i)) :
    ∀ m i out, i + m = n → out.length = n → Ev (fun k => L k out i) (out.take i ++ (List.range' i m).map v) := by
  intro m
  induction m with
  | zero =>
    intro i out hi hl
    obtain rfl : i = n := by omega
    refine Ev.step (h2 · out) (Ev.const ?_)
    simp [← hl]
  | succ m ih =>
    intro i out hi hl
    refine Ev.step (fun k => h1 k out i (by omega) hl) (Ev.bind (hX i (by omega)) ?_)
    refine Ev.eq (ih (i + 1) (out.set i (v i)) (by omega) (by simpa using hl)) ?_
    rw [List.range'_succ, List.map_cons, List.take_succ_eq_append_getElem (by simp; omega)]
    simp [List.take_set_of_le]
theorem eq_loop (n : Nat) (X : Nat → Nat → Option Bool) (L : Nat → Nat → Option Bool)
    (h1 : ∀ k i, i < n → L (k + 1) i = (X k i).bind fun t => if t = true then L k (i + 1) else some false)
    (h2 : ∀ k, L (k + 1) n = some true)
    (hX : ∀ i, i < n → Ev (fun k => X k i) true) :
    ∀ m i, i + m = n → Ev (fun k => L k i) true := by
  intro m
  induction m with
  | zero =>
    intro i hi
    obtain rfl : i = n := by omega
    exact Ev.step h2 (Ev.now _)
  | succ m ih =>
    intro i hi
    exact Ev.step (fun k => h1 k i (by omega)) (Ev.bind (hX i (by omega)) (Ev.pos rfl (ih (i + 1) (by omega))))
/-- A loop that gathers. -/
theorem fold_loop {σ τ ρ : Type} (n : Nat) (X : Nat → Nat → Option τ) (L : Nat → σ → Nat → Option ρ) (g : σ → τ → σ) (v : Nat → τ) (fin : σ → ρ)
    (h1 : ∀ k s i, i < n → L (k + 1) s i = (X k i).bind fun t => L k (g s t) (i + 1))
    (h2 : ∀ k s, L (k + 1) s n = some (fin s))
    (hX : ∀ i, i < n → Ev (fun k => X k i) (v i)) :
    ∀ m i s, i + m = n → Ev (fun k => L k s i) (fin ((List.range' i m).foldl (fun s i => g s (v i)) s)) := by
  intro m
  induction m with
  | zero =>
    intro i s hi
    obtain rfl : i = n := by omega
    exact Ev.step (h2 · s) (Ev.now _)
  | succ m ih =>
    intro i s hi
    refine Ev.step (fun k => h1 k s i (by omega)) (Ev.bind (hX i (by omega)) ?_)
    rw [List.range'_succ, List.foldl_cons]
    exact ih (i + 1) (g s (v i)) (by omega)
/-- A loop over an index, from any index on: the step may use what holds of the rest. -/
theorem any_loop {σ ρ : Type} (n : Nat) (L : Nat → σ → Nat → Option ρ) (R : Nat → σ → ρ) (I : Nat → σ → Prop)
    (hend : ∀ s, I n s → Ev (fun k => L k s n) (R n s))
    (hstep : ∀ i s, i < n → I i s → (∀ s', I (i + 1) s' → Ev (fun k => L k s' (i + 1)) (R (i + 1) s')) → Ev (fun k => L k s i) (R i s)) :
    ∀ m i s, i + m = n → I i s → Ev (fun k => L k s i) (R i s) := by
  intro m
  induction m with
  | zero =>
    intro i s hi hI
    obtain rfl : i = n := by omega
    exact hend s hI
  | succ m ih =>
    intro i s hi hI
    exact hstep i s (by omega) hI (fun s' hI' => ih (i + 1) s' (by omega) hI')
theorem range_map_getElem {α β : Type} (f : α → β) (d : α) (xs : List α) : (List.range' 0 xs.length).map (fun i => f (xs.getD i d)) = xs.map f := by
  apply List.ext_getElem
  · simp
  · intro i h1 h2
    simp at h1
    simp [h1]
theorem sumF_list {α : Type} (f : α → Nat) (d : α) (xs : List α) : ∀ m i, i + m = xs.length → sumF (fun i => f (xs.getD i d)) i m = ((xs.drop i).map f).sum := by
  intro m
  induction m with
  | zero => intro i hi; simp [sumF, List.drop_of_length_le (show xs.length ≤ i by omega)]
  | succ m ih =>
    intro i hi
    have hlt : i < xs.length := by omega
    rw [List.drop_eq_getElem_cons hlt, List.map_cons, List.sum_cons, sumF, ih (i + 1) (by omega)]
    simp [List.getD_eq_getElem?_getD, hlt]
theorem foldl_range {α σ : Type} (g : σ → α → σ) (d : α) (xs : List α) (s : σ) : (List.range' 0 xs.length).foldl (fun s i => g s (xs.getD i d)) s = xs.foldl g s := by
  have h : xs = (List.range' 0 xs.length).map (fun i => xs.getD i d) := by
    have := range_map_getElem (fun x => x) d xs
    simpa using this.symm
  conv => rhs; rw [h, List.foldl_map]
def szs (xs : List ByteArray) : Nat := (xs.map ByteArray.size).sum
def wts (xs : List ByteArray) : Nat := xs.length + szs xs
theorem rdOf_str (xs : List ByteArray) (i : Nat) : rdOf ByteArray.empty xs (i : Int) = xs.getD i ByteArray.empty := by simp [rdOf]
theorem mem_getD {α : Type} (xs : List α) (d : α) (i : Nat) (h : i < xs.length) : xs.getD i d ∈ xs := by
  simp [List.getD_eq_getElem?_getD, h]
theorem sum_le_of_mem {α : Type} (f : α → Nat) {xs : List α} {x : α} (h : x ∈ xs) : f x ≤ (xs.map f).sum := by
  induction xs with
  | nil => cases h
  | cons y ys ih =>
    rcases List.mem_cons.1 h with rfl | h
    · simp
    · have := ih h
      simp
      omega
theorem fold_wrap {α : Type} (f : α → Nat) : ∀ (xs : List α) (s : Nat), s + (xs.map f).sum ≤ 9223372036854775807 → xs.foldl (fun (s : Int) y => wrap64 (s + (f y : Int))) (s : Int) = ((s + (xs.map f).sum : Nat) : Int)
  | [], s, _ => by simp
  | x :: xs, s, h => by
    rw [List.map_cons, List.sum_cons] at h
    rw [List.foldl_cons, w64 (a := (s : Int) + (f x : Int)) (by omega) (by omega), List.map_cons, List.sum_cons, ← Nat.add_assoc]
    have := fold_wrap f xs (s + f x) (by omega)
    rw [← this]
    simp
/-- Two texts with rounds come to the same. -/
def Same {α : Type} (f g : Nat → Option α) : Prop := ∃ r, Ev f r ∧ Ev g r
theorem Same.ret {α : Type} {a b : α} (h : a = b) : Same (fun _ => some a) (fun _ => some b) := ⟨a, Ev.now a, Ev.const h.symm⟩
theorem Same.symm {α : Type} {f g : Nat → Option α} (h : Same f g) : Same g f := let ⟨r, a, b⟩ := h; ⟨r, b, a⟩
theorem Same.bind {α β : Type} {f g : Nat → Option α} {F G : Nat → α → Option β} (h : Same f g) (k : ∀ r, Ev f r → Ev g r → Same (F · r) (G · r)) : Same (fun n => (f n).bind (F n)) (fun n => (g n).bind (G n)) := by
  obtain ⟨r, a, b⟩ := h
  obtain ⟨s, c, d⟩ := k r a b
  exact ⟨s, Ev.bind a c, Ev.bind b d⟩
theorem Same.bindL {α β : Type} {f : Nat → Option α} {F : Nat → α → Option β} {g : Nat → Option β} {a : α} (h : Ev f a) (k : Same (F · a) g) : Same (fun n => (f n).bind (F n)) g := by
  obtain ⟨s, c, d⟩ := k
  exact ⟨s, Ev.bind h c, d⟩
theorem Same.bindR {α β : Type} {f : Nat → Option α} {F : Nat → α → Option β} {g : Nat → Option β} {a : α} (h : Ev f a) (k : Same g (F · a)) : Same g (fun n => (f n).bind (F n)) := (Same.bindL h k.symm).symm
theorem Same.posL {α : Type} {A B g : Nat → Option α} {c : Prop} [Decidable c] (hc : c) (h : Same A g) : Same (fun n => if c then A n else B n) g := let ⟨r, a, b⟩ := h; ⟨r, Ev.pos hc a, b⟩
theorem Same.negL {α : Type} {A B g : Nat → Option α} {c : Prop} [Decidable c] (hc : ¬ c) (h : Same B g) : Same (fun n => if c then A n else B n) g := let ⟨r, a, b⟩ := h; ⟨r, Ev.neg hc a, b⟩
theorem Same.posR {α : Type} {A B g : Nat → Option α} {c : Prop} [Decidable c] (hc : c) (h : Same g A) : Same g (fun n => if c then A n else B n) := let ⟨r, a, b⟩ := h; ⟨r, a, Ev.pos hc b⟩
theorem Same.negR {α : Type} {A B g : Nat → Option α} {c : Prop} [Decidable c] (hc : ¬ c) (h : Same g B) : Same g (fun n => if c then A n else B n) := let ⟨r, a, b⟩ := h; ⟨r, a, Ev.neg hc b⟩
theorem Same.pos {α : Type} {A B C D : Nat → Option α} {c d : Prop} [Decidable c] [Decidable d] (hc : c) (hd : d) (h : Same A C) : Same (fun n => if c then A n else B n) (fun n => if d then C n else D n) := Same.posL hc (Same.posR hd h)
theorem Same.neg {α : Type} {A B C D : Nat → Option α} {c d : Prop} [Decidable c] [Decidable d] (hc : ¬ c) (hd : ¬ d) (h : Same B D) : Same (fun n => if c then A n else B n) (fun n => if d then C n else D n) := Same.negL hc (Same.negR hd h)
theorem Same.ite {α : Type} {A B C D : Nat → Option α} {c d : Prop} [Decidable c] [Decidable d] (e : c ↔ d) (h1 : c → Same A C) (h2 : ¬ c → Same B D) : Same (fun n => if c then A n else B n) (fun n => if d then C n else D n) := by
  by_cases hc : c
  · exact Same.pos hc (e.1 hc) (h1 hc)
  · exact Same.neg hc (fun h => hc (e.2 h)) (h2 hc)
theorem Same.casesL {α : Type} {A B g : Nat → Option α} {c : Prop} [Decidable c] (h1 : c → Same A g) (h2 : ¬ c → Same B g) : Same (fun n => if c then A n else B n) g := by
  by_cases hc : c
  · exact Same.posL hc (h1 hc)
  · exact Same.negL hc (h2 hc)
theorem Same.casesR {α : Type} {A B g : Nat → Option α} {c : Prop} [Decidable c] (h1 : c → Same g A) (h2 : ¬ c → Same g B) : Same g (fun n => if c then A n else B n) := by
  by_cases hc : c
  · exact Same.posR hc (h1 hc)
  · exact Same.negR hc (h2 hc)
theorem Same.up {α : Type} {f g : Nat → Option α} (h : Same (fun k => f (k + 1)) (fun k => g (k + 1))) : Same f g := let ⟨r, a, b⟩ := h; ⟨r, Ev.up a, Ev.up b⟩
theorem Same.upL {α : Type} {f g : Nat → Option α} (h : Same (fun k => f (k + 1)) g) : Same f g := let ⟨r, a, b⟩ := h; ⟨r, Ev.up a, b⟩
theorem Same.upR {α : Type} {f g : Nat → Option α} (h : Same f (fun k => g (k + 1))) : Same f g := let ⟨r, a, b⟩ := h; ⟨r, a, Ev.up b⟩
/-- A loop over an index, on both sides, with one state. -/
theorem Same.loop {σ ρ : Type} (n : Nat) (L M : Nat → σ → Nat → Option ρ) (hend : ∀ s, Same (fun k => L k s n) (fun k => M k s n))
    (hstep : ∀ i s, i < n → (∀ s', Same (fun k => L k s' (i + 1)) (fun k => M k s' (i + 1))) → Same (fun k => L k s i) (fun k => M k s i)) : ∀ s, Same (fun k => L k s 0) (fun k => M k s 0) := by
  suffices h : ∀ m i s, i + m = n → Same (fun k => L k s i) (fun k => M k s i) from fun s => h n 0 s (by omega)
  intro m
  induction m with
  | zero => intro i s hi; obtain rfl : i = n := by omega
            exact hend s
  | succ m ih => intro i s hi; exact hstep i s (by omega) (fun s' => ih (i + 1) s' (by omega))
/-- .. without a state. -/
theorem Same.loop0 {ρ : Type} (n : Nat) (L M : Nat → Nat → Option ρ) (hend : Same (fun k => L k n) (fun k => M k n))
    (hstep : ∀ i, i < n → Same (fun k => L k (i + 1)) (fun k => M k (i + 1)) → Same (fun k => L k i) (fun k => M k i)) : Same (fun k => L k 0) (fun k => M k 0) := by
  suffices h : ∀ m i, i + m = n → Same (fun k => L k i) (fun k => M k i) from h n 0 (by omega)
  intro m
  induction m with
  | zero => intro i hi; obtain rfl : i = n := by omega
            exact hend
  | succ m ih => intro i hi; exact hstep i (by omega) (ih (i + 1) (by omega))
/-- A loop over an index, on both sides, with one state, and what holds of it. -/
theorem Same.loopI {σ ρ : Type} (n : Nat) (I : Nat → σ → Prop) (L M : Nat → σ → Nat → Option ρ) (hend : ∀ s, I n s → Same (fun k => L k s n) (fun k => M k s n))
    (hstep : ∀ i s, i < n → I i s → (∀ s', I (i + 1) s' → Same (fun k => L k s' (i + 1)) (fun k => M k s' (i + 1))) → Same (fun k => L k s i) (fun k => M k s i)) : ∀ s, I 0 s → Same (fun k => L k s 0) (fun k => M k s 0) := by
  suffices h : ∀ m i s, i + m = n → I i s → Same (fun k => L k s i) (fun k => M k s i) from fun s => h n 0 s (by omega)
  intro m
  induction m with
  | zero => intro i s hi hI; obtain rfl : i = n := by omega
            exact hend s hI
  | succ m ih => intro i s hi hI; exact hstep i s (by omega) hI (fun s' => ih (i + 1) s' (by omega))
theorem mx_eq (a b : Int) : mx a b = if a > b then a else b := by unfold mx; split <;> split <;> omega
/-- Does one of a list say yes, in order; else what stands at the end. -/
theorem any_ev {α : Type} (xs : List α) (d : α) (P : α → Bool) (fin : Bool) (L X : Nat → Nat → Option Bool)
    (h1 : ∀ k i, i < xs.length → L (k + 1) i = (X k i).bind fun t => if t = true then some true else L k (i + 1))
    (hend : Ev (fun k => L k xs.length) fin) (hX : ∀ i, i < xs.length → Ev (fun k => X k i) (P (xs.getD i d))) : Ev (fun k => L k 0) (xs.any P || fin) := by
  suffices h : ∀ m i, i + m = xs.length → Ev (fun k => L k i) ((xs.drop i).any P || fin) from by simpa using h xs.length 0 (by omega)
  intro m
  induction m with
  | zero =>
    intro i hi
    obtain rfl : i = xs.length := by omega
    simpa using hend
  | succ m ih =>
    intro i hi
    have hlt : i < xs.length := by omega
    refine Ev.step (fun k => h1 k i hlt) (Ev.bind (hX i hlt) ?_)
    rw [List.drop_eq_getElem_cons hlt, List.any_cons, show xs.getD i d = xs[i] by simp [List.getD_eq_getElem?_getD, hlt]]
    cases hp : P xs[i]
    · exact Ev.neg (by simp) (by simpa using ih (i + 1) (by omega))
    · exact Ev.pos rfl (Ev.const (by simp))
/-- Do all of a list say yes, in order; then what stands at the end. -/
theorem all_ev {α : Type} (xs : List α) (d : α) (P : α → Bool) (fin : Bool) (L X : Nat → Nat → Option Bool)
    (h1 : ∀ k i, i < xs.length → L (k + 1) i = (X k i).bind fun t => if t = true then L k (i + 1) else some false)
    (hend : Ev (fun k => L k xs.length) fin) (hX : ∀ i, i < xs.length → Ev (fun k => X k i) (P (xs.getD i d))) : Ev (fun k => L k 0) (xs.all P && fin) := by
  suffices h : ∀ m i, i + m = xs.length → Ev (fun k => L k i) ((xs.drop i).all P && fin) from by simpa using h xs.length 0 (by omega)
  intro m
  induction m with
  | zero =>
    intro i hi
    obtain rfl : i = xs.length := by omega
    simpa using hend
  | succ m ih =>
    intro i hi
    have hlt : i < xs.length := by omega
    refine Ev.step (fun k => h1 k i hlt) (Ev.bind (hX i hlt) ?_)
    rw [List.drop_eq_getElem_cons hlt, List.all_cons, show xs.getD i d = xs[i] by simp [List.getD_eq_getElem?_getD, hlt]]
    cases hp : P xs[i]
    · exact Ev.neg (by simp) (Ev.const (by simp))
    · exact Ev.pos rfl (by simpa using ih (i + 1) (by omega))
end Go.Proofs.YtpmcedhcdmpmlaaDoor.Pl
