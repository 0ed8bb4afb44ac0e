/- Plain words for the pure statements: what a function with rounds comes to, loops, cuts of a budget. No condition. -/
import Derived.Test.YtpckkjeapfdilaaDoorZSubstTermWWords
import Derived.Test.YtpckkjeapfdilaaDoorZSubstTermWLastM
import Derived.Test.YtpckkjeapfdilaaDoorZSubstTermPx17M
import Derived.Test.YtpckkjeapfdilaaDoorZSubstTermPx0M
import Derived.Test.YtpckkjeapfdilaaDoorZSubstTermPx7
import Derived.Test.YtpckkjeapfdilaaDoorZSubstTermPx14M
section
namespace Go.Proofs.YtpckkjeapfdilaaDoor.Pl
open Go.RowKit Go.Proofs.YtpckkjeapfdilaaDoorW.PrintWords
set_option linter.unusedVariables false
theorem Ev.up {α : Type} {g : Nat → Option α} {r : α} (h : Ev (fun k => g (k + 1)) r) : Ev g r := Ev.step (f := fun k => g (k + 1)) (fun _ => rfl) h
theorem Ev.pos {α : Type} {A B : Nat → Option α} {r : α} {c : Prop} [Decidable c] (hc : c) (h : Ev A r) : Ev (fun n => if c then A n else B n) r :=
  Ev.congr (f := A) (fun k => by rw [if_pos hc]) h
theorem Ev.neg {α : Type} {A B : Nat → Option α} {r : α} {c : Prop} [Decidable c] (hc : ¬ c) (h : Ev B r) : Ev (fun n => if c then A n else B n) r :=
  Ev.congr (f := B) (fun k => by rw [if_neg hc]) h
theorem Ev.cases {α : Type} {A B : Nat → Option α} {r : α} {c : Prop} [Decidable c] (h1 : c → Ev A r) (h2 : ¬ c → Ev B r) : Ev (fun n => if c then A n else B n) r := by
  by_cases hc : c
  · exact Ev.pos hc (h1 hc)
  · exact Ev.neg hc (h2 hc)
theorem Ev.eq {α : Type} {g : Nat → Option α} {r r' : α} (h : Ev g r) (e : r = r') : Ev g r' := e ▸ h
theorem Ev.const {α : Type} {a r : α} (e : a = r) : Ev (fun _ => some a) r := by subst e; exact Ev.now _
theorem Ev.none_bind {α β : Type} {a : α} {f : Nat → α → Option β} {r : β} (h : Ev (fun n => f n a) r) : Ev (fun n => (some a).bind (f n)) r := h
theorem Ev.fix {α β : Type} {g : Option α} {a : α} {f : Nat → α → Option β} {r : β} (hg : g = some a) (h : Ev (fun n => f n a) r) : Ev (fun n => g.bind (f n)) r := by subst hg; exact h
theorem w1 {i n : Nat} (h : i < n) (hn : n ≤ maxLen) : wrap64 ((i : Int) + 1) = ((i + 1 : Nat) : Int) := by
  have : n ≤ 9223372036854775807 := hn
  unfold wrap64
  omega
theorem w1' {i n : Nat} (h : i < n) (hn : n ≤ 1048576) : wrap64 ((i : Int) + 1) = ((i + 1 : Nat) : Int) := w1 h (by unfold maxLen; omega)
theorem w64 {a : Int} (h : -9223372036854775808 ≤ a) (h2 : a ≤ 9223372036854775807) : wrap64 a = a := by unfold wrap64; omega
def cut (n : Nat) (left : Int) : Int := if (n : Int) ≤ left then left - n else -1
theorem cut_zero {left : Int} (h : 0 ≤ left) : cut 0 left = left := by unfold cut; rw [if_pos (by omega)]; omega
theorem cut_neg {n : Nat} {left : Int} : cut n left < 0 ↔ ¬ ((n : Int) ≤ left) := by
  unfold cut
  split <;> omega
theorem cut_le {n : Nat} {left : Int} (h : 0 ≤ left) : cut n left ≤ left := by unfold cut; split <;> omega
theorem cut_add {m n : Nat} {left : Int} (h : 0 ≤ cut m left) : cut n (cut m left) = cut (m + n) left := by
  unfold cut at *
  split at h
  · rename_i h1
    simp only [if_pos h1]
    by_cases h2 : (n : Int) ≤ left - m
    · rw [if_pos h2, if_pos (by omega)]; omega
    · rw [if_neg h2, if_neg (by omega)]
  · omega
theorem cut_add' {m n : Nat} {left : Int} (h : cut m left < 0) : cut (m + n) left = -1 := by
  have := cut_neg.1 h
  unfold cut
  rw [if_neg (by omega)]
theorem cut_sub {n : Nat} {left : Int} (h : 0 ≤ left) (hl : left ≤ 1048576) (hn : n ≤ maxLen) : (wrap64 (left - (n : Int)) < 0 ↔ cut n left < 0) ∧ (0 ≤ cut n left → wrap64 (left - (n : Int)) = cut n left) := by
  have hn' : n ≤ 9223372036854775807 := hn
  have e : wrap64 (left - (n : Int)) = left - n := w64 (by omega) (by omega)
  rw [e, cut_neg]
  unfold cut
  constructor
  · omega
  · intro h2
    split at h2
    · rename_i h3; rw [if_pos h3]
    · omega
def sumF (W : Nat → Nat) : Nat → Nat → Nat
  | _, 0 => 0
  | i, m + 1 => W i + sumF W (i + 1) m
theorem sz_loop (n : Nat) (X : Nat → Nat → Int → Option Int) (L : Nat → Int → Nat → Option Int) (W : Nat → Nat)
    (h1 : ∀ k left i, i < n → L (k + 1) left i = (X k i left).bind fun t => if t < 0 then some (-1) else L k t (i + 1))
    (h2 : ∀ k left, L (k + 1) left n = some left)
    (hX : ∀ i left, i < n → 0 ≤ left → left ≤ 1048576 → Ev (fun k => X k i left) (cut (W i) left)) :
    ∀ m i left, i + m = n → 0 ≤ left → left ≤ 1048576 → Ev (fun k => L k left i) (cut (sumF W i m) left) := by
  intro m
  induction m with
  | zero =>
    intro i left hi h0 hl
    obtain rfl : i = n := by omega
    refine Ev.step (h2 · left) ?_
    exact Ev.const (cut_zero h0).symm
  | succ m ih =>
    intro i left hi h0 hl
    refine Ev.step (fun k => h1 k left i (by omega)) (Ev.bind (hX i left (by omega) h0 hl) ?_)
    by_cases hc : cut (W i) left < 0
    · exact Ev.pos hc (Ev.const (cut_add' hc).symm)
    · refine Ev.neg hc (Ev.eq (ih (i + 1) _ (by omega) (by omega) ?_) (cut_add (by omega)))
      have := cut_le (n := W i) h0
      omega
theorem sz_loop' (n : Nat) (L : Nat → Int → Nat → Option Int) (W : Nat → Nat)
    (h1 : ∀ k left i, i < n → 0 ≤ left → left ≤ 1048576 → L (k + 1) left i = if cut (W i) left < 0 then some (-1) else L k (cut (W i) left) (i + 1))
    (h2 : ∀ k left, L (k + 1) left n = some left) :
    ∀ m i left, i + m = n → 0 ≤ left → left ≤ 1048576 → Ev (fun k => L k left i) (cut (sumF W i m) left) := by
  intro m
  induction m with
  | zero =>
    intro i left hi h0 hl
    obtain rfl : i = n := by omega
    refine Ev.step (h2 · left) ?_
    exact Ev.const (cut_zero h0).symm
  | succ m ih =>
    intro i left hi h0 hl
    refine Ev.step (fun k => h1 k left i (by omega) h0 hl) ?_
    by_cases hc : cut (W i) left < 0
    · exact Ev.pos hc (Ev.const (cut_add' hc).symm)
    · refine Ev.neg hc (Ev.eq (ih (i + 1) _ (by omega) (by omega) ?_) (cut_add (by omega)))
      have := cut_le (n := W i) h0
      omega
theorem Ev.map {α β : Type} {g : Nat → Option α} {a : α} (f : α → β) (h : Ev g a) : Ev (fun k => (g k).map f) (f a) := by
  obtain ⟨K, hK⟩ := h
  exact ⟨K, fun k hk => by show (g k).map f = _; rw [hK k hk]; rfl⟩
theorem to_loop {α : Type} (n : Nat) (X : Nat → Nat → Option α) (L : Nat → List α → Nat → Option (List α)) (v : Nat → α)
    (h1 : ∀ k out i, i < n → out.length = n → L (k + 1) out i = (X k i).bind fun t => L k (out.set i t) (i + 1))
    (h2 : ∀ k out, L (k + 1) out n = some out)
    (hX : ∀ i, i < n → Ev (fun k => X k i) (v i)) :
    ∀ m i out, i + m = n → out.length = n → Ev (fun k => L k out i) (out.take i ++ (List.range' i m).map v) := by
  intro m
  induction m with
  | zero =>
    intro i out hi hl
    obtain rfl : i = n := by omega
    refine Ev.step (h2 · out) (Ev.const ?_)
    simp [← hl]
  | succ m ih =>
    intro i out hi hl
    refine Ev.step (fun k => h1 k out i (by omega) hl) (Ev.bind (hX i (by omega)) ?_)
    refine Ev.eq (ih (i + 1) (out.set i (v i)) (by omega) (by simpa using hl)) ?_
    rw [List.range'_succ, List.map_cons, List.take_succ_eq_append_getElem (by simp; omega)]
    simp [List.take_set_of_le]
theorem eq_loop (n : Nat) (X : Nat → Nat → Option Bool) (L : Nat → Nat → Option Bool)
    (h1 : ∀ k i, i < n → L (k + 1) i = (X k i).bind fun t => if t = true then L k (i + 1) else some false)
    (h2 : ∀ k, L (k + 1) n = some true)
    (hX : ∀ i, i < n → Ev (fun k => X k i) true) :
    ∀ m i, i + m = n → Ev (fun k => L k i) true := by
  intro m
  induction m with
  | zero =>
    intro i hi
    obtain rfl : i = n := by omega
    exact Ev.step h2 (Ev.now _)
  | succ m ih =>
    intro i hi
    exact Ev.step (fun k => h1 k i (by omega)) (Ev.bind (hX i (by omega)) (Ev.pos rfl (ih (i + 1) (by omega))))
theorem range_map_getElem {α β : Type} (f : α → β) (d : α) (xs : List α) : (List.range' 0 xs.length).map (fun i => f (xs.getD i d)) = xs.map f := by
  apply List.ext_getElem
  · simp
  · intro i h1 h2
    simp at h1
    simp [h1]
theorem sumF_list {α : Type} (f : α → Nat) (d : α) (xs : List α) : ∀ m i, i + m = xs.length → sumF (fun i => f (xs.getD i d)) i m = ((xs.drop i).map f).sum := by
  intro m
  induction m with
  | zero => intro i hi; simp [sumF, List.drop_of_length_le (show xs.length ≤ i by omega)]
  | succ m ih =>
    intro i hi
    have hlt : i < xs.length := by omega
    rw [List.drop_eq_getElem_cons hlt, List.map_cons, List.sum_cons, sumF, ih (i + 1) (by omega)]
    simp [List.getD_eq_getElem?_getD, hlt]
def szs (xs : List ByteArray) : Nat := (xs.map ByteArray.size).sum
def wts (xs : List ByteArray) : Nat := xs.length + szs xs
theorem rdOf_str (xs : List ByteArray) (i : Nat) : rdOf ByteArray.empty xs (i : Int) = xs.getD i ByteArray.empty := by simp [rdOf]
theorem mem_getD {α : Type} (xs : List α) (d : α) (i : Nat) (h : i < xs.length) : xs.getD i d ∈ xs := by
  simp [List.getD_eq_getElem?_getD, h]
theorem sum_le_of_mem {α : Type} (f : α → Nat) {xs : List α} {x : α} (h : x ∈ xs) : f x ≤ (xs.map f).sum := by
  induction xs with
  | nil => cases h
  | cons y ys ih =>
    rcases List.mem_cons.1 h with rfl | h
    · simp
    · have := ih h
      simp
      omega
def Same {α : Type} (f g : Nat → Option α) : Prop := ∃ r, Ev f r ∧ Ev g r
theorem Same.symm {α : Type} {f g : Nat → Option α} (h : Same f g) : Same g f := let ⟨r, a, b⟩ := h; ⟨r, b, a⟩
theorem Same.bind {α β : Type} {f g : Nat → Option α} {F G : Nat → α → Option β} (h : Same f g) (k : ∀ r, Ev f r → Ev g r → Same (F · r) (G · r)) : Same (fun n => (f n).bind (F n)) (fun n => (g n).bind (G n)) := by
  obtain ⟨r, a, b⟩ := h
  obtain ⟨s, c, d⟩ := k r a b
  exact ⟨s, Ev.bind a c, Ev.bind b d⟩
theorem Same.posL {α : Type} {A B g : Nat → Option α} {c : Prop} [Decidable c] (hc : c) (h : Same A g) : Same (fun n => if c then A n else B n) g := let ⟨r, a, b⟩ := h; ⟨r, Ev.pos hc a, b⟩
theorem Same.negL {α : Type} {A B g : Nat → Option α} {c : Prop} [Decidable c] (hc : ¬ c) (h : Same B g) : Same (fun n => if c then A n else B n) g := let ⟨r, a, b⟩ := h; ⟨r, Ev.neg hc a, b⟩
theorem Same.posR {α : Type} {A B g : Nat → Option α} {c : Prop} [Decidable c] (hc : c) (h : Same g A) : Same g (fun n => if c then A n else B n) := let ⟨r, a, b⟩ := h; ⟨r, a, Ev.pos hc b⟩
theorem Same.negR {α : Type} {A B g : Nat → Option α} {c : Prop} [Decidable c] (hc : ¬ c) (h : Same g B) : Same g (fun n => if c then A n else B n) := let ⟨r, a, b⟩ := h; ⟨r, a, Ev.neg hc b⟩
theorem Same.pos {α : Type} {A B C D : Nat → Option α} {c d : Prop} [Decidable c] [Decidable d] (hc : c) (hd : d) (h : Same A C) : Same (fun n => if c then A n else B n) (fun n => if d then C n else D n) := Same.posL hc (Same.posR hd h)
theorem Same.neg {α : Type} {A B C D : Nat → Option α} {c d : Prop} [Decidable c] [Decidable d] (hc : ¬ c) (hd : ¬ d) (h : Same B D) : Same (fun n => if c then A n else B n) (fun n => if d then C n else D n) := Same.negL hc (Same.negR hd h)
theorem Same.up {α : Type} {f g : Nat → Option α} (h : Same (fun k => f (k + 1)) (fun k => g (k + 1))) : Same f g := let ⟨r, a, b⟩ := h; ⟨r, Ev.up a, Ev.up b⟩
theorem Same.loop {σ ρ : Type} (n : Nat) (L M : Nat → σ → Nat → Option ρ) (hend : ∀ s, Same (fun k => L k s n) (fun k => M k s n))
    (hstep : ∀ i s, i < n → (∀ s', Same (fun k => L k s' (i + 1)) (fun k => M k s' (i + 1))) → Same (fun k => L k s i) (fun k => M k s i)) : ∀ s, Same (fun k => L k s 0) (fun k => M k s 0) := by
  suffices h : ∀ m i s, i + m = n → Same (fun k => L k s i) (fun k => M k s i) from fun s => h n 0 s (by omega)
  intro m
  induction m with
  | zero => intro i s hi; obtain rfl : i = n := by omega
            exact hend s
  | succ m ih => intro i s hi; exact hstep i s (by omega) (fun s' => ih (i + 1) s' (by omega))
end Go.Proofs.YtpckkjeapfdilaaDoor.Pl
end
section
namespace Go.Proofs.YtpckkjeapfdilaaDoor.Px
open Go.RowKit Go.Proofs.YtpckkjeapfdilaaDoorW.PrintWords Go.Proofs.YtpckkjeapfdilaaDoor.Pl
set_option linter.unusedVariables false
set_option linter.unusedSimpArgs false
theorem szStringS_ev (xs : List ByteArray) (hx : xs.length ≤ maxLen ∧ ∀ y ∈ xs, y.size ≤ maxLen) (left : Int) (h0 : 0 ≤ left) (hl : left ≤ 1048576) : Ev (fun k => laws_szStringS.f k xs left) (cut (wts xs) left) := by
 simp only [laws_szStringS.f]
 have hs := cut_sub (n := xs.length) h0 hl hx.1
 by_cases hc : cut xs.length left < 0
 ·exact Ev.pos (hs.1.2 hc) (Ev.const (cut_add' hc).symm)
 ·refine Ev.neg (fun h => hc (hs.1.1 h)) ?_
  rw [hs.2 (by omega)]
  have hl2 := cut_le (n := xs.length) h0
  have hw := sz_loop' xs.length (fun k left i => laws_szStringS.l0 k xs left (i : Int)) (fun i => (xs.getD i ByteArray.empty).size) (fun k left i hi h0 hl => by
   have hz := cut_sub (n := (xs.getD i ByteArray.empty).size) h0 hl (hx.2 _ (mem_getD xs _ i hi))
   simp only [laws_szStringS.l0, rdOf_str]
   rw [if_pos (by omega), if_pos (by omega)]
   by_cases hc : cut (xs.getD i ByteArray.empty).size left < 0
   ·rw [if_pos (hz.1.2 hc), if_pos hc]
   ·rw [if_neg (fun h => hc (hz.1.1 h)), if_neg hc, hz.2 (by omega), w1 hi hx.1]) (fun k left => by simp only [laws_szStringS.l0]; rw [if_neg (by omega)]) xs.length 0 _ (by omega) (show 0 ≤ cut xs.length left by omega) (by omega)
  refine Ev.eq hw ?_
  rw [cut_add (by omega), sumF_list ByteArray.size ByteArray.empty xs xs.length 0 (by omega)]
  rfl
theorem toStringS_ev (xs : List ByteArray) (hx : xs.length ≤ 1048576) : Ev (fun k => laws_toStringS.f k xs) xs := by
 simp only [laws_toStringS.f]
 refine Ev.pos (by omega) (Ev.pos (by omega) ?_)
 have hw := to_loop xs.length (fun k i => some (xs.getD i ByteArray.empty)) (fun k out i => laws_toStringS.l0 k xs out (i : Int)) (fun i => xs.getD i ByteArray.empty) (fun k out i hi hl => by
  simp only [laws_toStringS.l0, rdOf_str]
  rw [if_pos (by omega), if_pos (by omega), if_pos (by omega), w1' hi hx]
  rfl) (fun k out => by simp only [laws_toStringS.l0]; rw [if_neg (by omega)]) (fun i hi => Ev.now _) xs.length 0 (List.replicate ((xs.length : Int)).toNat (⟨#[]⟩ : ByteArray)) (by omega) (by simp)
 refine Ev.eq hw ?_
 rw [List.take_zero, List.nil_append, range_map_getElem (fun x => x) ByteArray.empty xs, List.map_id']
theorem eqStringS_ev (xs : List ByteArray) (hx : xs.length ≤ 1048576) : Ev (fun k => laws_eqStringS.f k xs xs) true := by
 simp only [laws_eqStringS.f]
 refine Ev.pos (by simp) ?_
 exact eq_loop xs.length (fun k i => some true) (fun k i => laws_eqStringS.l0 k xs xs (i : Int)) (fun k i hi => by
  simp only [laws_eqStringS.l0]
  rw [if_pos (by omega), if_pos (by omega), if_pos (by omega), w1' hi hx]
  simp) (fun k => by simp only [laws_eqStringS.l0]; rw [if_neg (by omega)]) (fun i hi => Ev.now _) xs.length 0 (by omega)
end Go.Proofs.YtpckkjeapfdilaaDoor.Px
end
section
namespace Go.Proofs.YtpckkjeapfdilaaDoor.Px
open Go.RowKit Go.Proofs.YtpckkjeapfdilaaDoorW.PrintWords Go.Proofs.YtpckkjeapfdilaaDoor.Pl
set_option linter.unusedVariables false
set_option linter.unusedSimpArgs false
mutual
def wtType : S25 → Nat
 | ⟨x0, x1, x2⟩ => wts x1 + (x2.length + wtTypeS x2)
def wtTypeS : List S25 → Nat
 | [] => 0
 | x :: r => wtType x + wtTypeS r
end
mutual
def cvType : S25 → S32
 | ⟨x0, x1, x2⟩ => ⟨x0, x1, (cvTypeS x2)⟩
def cvTypeS : List S25 → List S32
 | [] => []
 | x :: r => cvType x :: cvTypeS r
end
theorem wtTypeS_sum (xs : List S25) : wtTypeS xs = (xs.map wtType).sum := by
 induction xs with
 | nil => rfl
 | cons x r ih => simp [wtTypeS, ih]
theorem cvTypeS_map (xs : List S25) : cvTypeS xs = xs.map cvType := by
 induction xs with
 | nil => rfl
 | cons x r ih => simp [cvTypeS, ih]
theorem wtType_eq (x : S25) : wtType x = wts x.f1 + (x.f2.length + wtTypeS x.f2) := by cases x; simp only [wtType]
theorem cvType_eq (x : S25) : cvType x = ⟨x.f0, x.f1, (cvTypeS x.f2)⟩ := by cases x; simp only [cvType]
theorem indTypeL {P : S25 → Prop} (h : ∀ x, (∀ y ∈ x.f2, P y) → P x) : ∀ x, P x
 | ⟨x0, x1, x2⟩ => h _ (fun y hy => indTypeL h y)
termination_by x => SizeOf.sizeOf x
decreasing_by
 have := List.sizeOf_lt_of_mem hy
 simp at this ⊢
 omega
theorem indTypeI {P : S32 → Prop} (h : ∀ x, (∀ y ∈ x.f2, P y) → P x) : ∀ x, P x
 | ⟨x0, x1, x2⟩ => h _ (fun y hy => indTypeI h y)
termination_by x => SizeOf.sizeOf x
decreasing_by
 have := List.sizeOf_lt_of_mem hy
 simp at this ⊢
 omega
inductive SmType : S32 → Prop
 | mk {x : S32} : ((Lit.int .i64 x.f0).wf = true) → ((x.f1.length ≤ 1048576 ∧ ∀ y ∈ x.f1, y.size ≤ 1048576)) → x.f2.length ≤ 1048576 → (∀ y ∈ x.f2, SmType y) → SmType x
theorem SmType.p0 {x : S32} (h : SmType x) : (Lit.int .i64 x.f0).wf = true := by cases h; assumption
theorem SmType.p1 {x : S32} (h : SmType x) : (x.f1.length ≤ 1048576 ∧ ∀ y ∈ x.f1, y.size ≤ 1048576) := by cases h; assumption
theorem SmType.p2 {x : S32} (h : SmType x) : x.f2.length ≤ 1048576 ∧ ∀ y ∈ x.f2, SmType y := by cases h; constructor <;> assumption
theorem etaType (x : S32) : (⟨x.f0, x.f1, x.f2⟩ : S32) = x := by obtain ⟨_, _, _⟩ := x; rfl
theorem smType_of : ∀ x : S25, W25 x → wtType x ≤ 1048576 → SmType (cvType x) := by
 refine indTypeL fun x ih hw hw2 => ?_
 have hb := hw2
 rw [wtType_eq] at hb
 rw [cvType_eq]
 exact SmType.mk (hw.p0) (⟨by (try dsimp only); unfold wts at hb; omega, fun y hy => by (try dsimp only at hy); have := sum_le_of_mem ByteArray.size hy; unfold wts szs at hb; omega⟩) (by (try dsimp only); rw [cvTypeS_map, List.length_map]; omega) (fun z hz => by
   (try dsimp only at hz)
   rw [cvTypeS_map] at hz
   obtain ⟨y, hy, rfl⟩ := List.mem_map.1 hz
   exact ih y hy (hw.p2.2 y hy) (by have := sum_le_of_mem wtType hy; rw [← wtTypeS_sum] at this; omega))
theorem szTypeS_of (xs : List S25) (hx : xs.length ≤ maxLen) (h : ∀ y ∈ xs, ∀ left : Int, 0 ≤ left → left ≤ 1048576 → Ev (fun k => laws_szType.f k (y.f0) (y.f1) (y.f2) left) (cut (wtType y) left)) (left : Int) (h0 : 0 ≤ left) (hl : left ≤ 1048576) : Ev (fun k => laws_szTypeS.f k xs left) (cut (xs.length + wtTypeS xs) left) := by
 refine Ev.up ?_
 simp only [laws_szTypeS.f]
 have hs := cut_sub (n := xs.length) h0 hl hx
 by_cases hc : cut xs.length left < 0
 ·exact Ev.pos (hs.1.2 hc) (Ev.const (cut_add' hc).symm)
 ·refine Ev.neg (fun h => hc (hs.1.1 h)) ?_
  rw [hs.2 (by omega)]
  have hl2 := cut_le (n := xs.length) h0
  have hw := sz_loop xs.length (fun k i left => laws_szType.f k ((rd_T25 xs (i : Int)).f0) ((rd_T25 xs (i : Int)).f1) ((rd_T25 xs (i : Int)).f2) left) (fun k left i => laws_szTypeS.l0 k xs left (i : Int)) (fun i => wtType (xs.getD i z25)) (fun k left i hi => by
   simp only [laws_szTypeS.l0]
   rw [if_pos (by omega), if_pos (by omega), w1 hi hx]) (fun k left => by simp only [laws_szTypeS.l0]; rw [if_neg (by omega)]) (fun i left hi h0 hl => h _ (mem_getD xs z25 i hi) left h0 hl) xs.length 0 _ (by omega) (show 0 ≤ cut xs.length left by omega) (by omega)
  refine Ev.eq hw ?_
  rw [cut_add (by omega), sumF_list wtType z25 xs xs.length 0 (by omega), wtTypeS_sum]
  rfl
theorem szType_ev : ∀ x : S25, W25 x → ∀ left : Int, 0 ≤ left → left ≤ 1048576 → Ev (fun k => laws_szType.f k (x.f0) (x.f1) (x.f2) left) (cut (wtType x) left) := by
 refine indTypeL fun x ih hw left h0 hl => ?_
 refine Ev.up ?_
 simp only [laws_szType.f]
 rw [wtType_eq]
 have hb0 : (0 : Int) ≤ left ∧ left ≤ 1048576 := ⟨h0, hl⟩
 refine Ev.bind (szStringS_ev x.f1 hw.p1 _ hb0.1 hb0.2) ?_
 by_cases hc0 : cut (wts x.f1) left < 0
 ·refine Ev.pos hc0 (Ev.const ?_)
  have hn : cut (wts x.f1) left < 0 := hc0
  have hn : cut (wts x.f1 + (x.f2.length + wtTypeS x.f2)) left < 0 := by rw [cut_add' hn]; omega
  have hv := cut_neg.1 hn; unfold cut; rw [if_neg hv]
 refine Ev.neg hc0 ?_
 have hb1 : (0 : Int) ≤ cut (wts x.f1) left ∧ cut (wts x.f1) left ≤ 1048576 := ⟨by omega, by have := cut_le (n := wts x.f1) h0; omega⟩
 refine Ev.bind (szTypeS_of x.f2 hw.p2.1 (fun y hy => ih y hy (hw.p2.2 y hy)) _ hb1.1 hb1.2) ?_
 by_cases hc1 : cut ((x.f2.length + wtTypeS x.f2)) (cut (wts x.f1) left) < 0
 ·refine Ev.pos hc1 (Ev.const ?_)
  have hn : cut (wts x.f1 + (x.f2.length + wtTypeS x.f2)) left < 0 := by rw [← cut_add (by omega)]; exact hc1
  have hv := cut_neg.1 hn; unfold cut; rw [if_neg hv]
 refine Ev.neg hc1 ?_
 rw [cut_add (by omega)] at hc1 ⊢
 have hb2 : (0 : Int) ≤ cut (wts x.f1 + (x.f2.length + wtTypeS x.f2)) left ∧ cut (wts x.f1 + (x.f2.length + wtTypeS x.f2)) left ≤ 1048576 := ⟨by omega, by have := cut_le (n := wts x.f1 + (x.f2.length + wtTypeS x.f2)) h0; omega⟩
 exact Ev.const rfl
theorem toTypeS_of (xs : List S25) (hx : xs.length ≤ 1048576) (h : ∀ y ∈ xs, Ev (fun k => laws_toType.f k (y.f0) (y.f1) (y.f2)) ((cvType y).f0, (cvType y).f1, (cvType y).f2)) : Ev (fun k => laws_toTypeS.f k xs) (cvTypeS xs) := by
 refine Ev.up ?_
 simp only [laws_toTypeS.f]
 refine Ev.pos (by omega) (Ev.pos (by omega) ?_)
 have hw := to_loop xs.length (fun k i => (laws_toType.f k ((rd_T25 xs (i : Int)).f0) ((rd_T25 xs (i : Int)).f1) ((rd_T25 xs (i : Int)).f2)).map fun t => (⟨t.1, t.2.1, t.2.2⟩ : S32)) (fun k out i => laws_toTypeS.l0 k xs out (i : Int)) (fun i => cvType (xs.getD i z25)) (fun k out i hi hl => by
  simp only [laws_toTypeS.l0]
  rw [if_pos (by omega), if_pos (by omega)]
  rcases laws_toType.f k ((rd_T25 xs (i : Int)).f0) ((rd_T25 xs (i : Int)).f1) ((rd_T25 xs (i : Int)).f2) with _ | t
  ·rfl
  ·simp only [Option.map_some, Option.bind_some]
   rw [if_pos (by omega), w1' hi hx]
   rfl) (fun k out => by simp only [laws_toTypeS.l0]; rw [if_neg (by omega)]) (fun i hi => Ev.eq (Ev.map (fun t => (⟨t.1, t.2.1, t.2.2⟩ : S32)) (h _ (mem_getD xs z25 i hi))) (etaType _)) xs.length 0 (List.replicate ((xs.length : Int)).toNat z32) (by omega) (by simp)
 refine Ev.eq hw ?_
 rw [List.take_zero, List.nil_append, range_map_getElem cvType z25 xs, cvTypeS_map]
theorem toType_ev : ∀ x : S25, wtType x ≤ 1048576 → Ev (fun k => laws_toType.f k (x.f0) (x.f1) (x.f2)) ((cvType x).f0, (cvType x).f1, (cvType x).f2) := by
 refine indTypeL fun x ih hw2 => ?_
 refine Ev.up ?_
 simp only [laws_toType.f]
 have hb := hw2
 rw [wtType_eq] at hb
 refine Ev.bind (toStringS_ev x.f1 (by unfold wts at hb; omega)) ?_
 refine Ev.bind (toTypeS_of x.f2 (by omega) (fun y hy => ih y hy (by have := sum_le_of_mem wtType hy; rw [← wtTypeS_sum] at this; omega))) ?_
 exact Ev.const (by rw [cvType_eq])
theorem eqTypeS_of (xs : List S32) (hx : xs.length ≤ 1048576) (h : ∀ y ∈ xs, Ev (fun k => laws_eqType.f k (y.f0) (y.f1) (y.f2) (y.f0) (y.f1) (y.f2)) true) : Ev (fun k => laws_eqTypeS.f k xs xs) true := by
 refine Ev.up ?_
 simp only [laws_eqTypeS.f]
 refine Ev.pos (by simp) ?_
 exact eq_loop xs.length (fun k i => laws_eqType.f k ((rd_T32 xs (i : Int)).f0) ((rd_T32 xs (i : Int)).f1) ((rd_T32 xs (i : Int)).f2) ((rd_T32 xs (i : Int)).f0) ((rd_T32 xs (i : Int)).f1) ((rd_T32 xs (i : Int)).f2)) (fun k i => laws_eqTypeS.l0 k xs xs (i : Int)) (fun k i hi => by
  simp only [laws_eqTypeS.l0]
  rw [if_pos (by omega), if_pos (by omega), if_pos (by omega), w1' hi hx]) (fun k => by simp only [laws_eqTypeS.l0]; rw [if_neg (by omega)]) (fun i hi => h _ (mem_getD xs z32 i hi)) xs.length 0 (by omega)
theorem eqType_ev : ∀ x : S32, SmType x → Ev (fun k => laws_eqType.f k (x.f0) (x.f1) (x.f2) (x.f0) (x.f1) (x.f2)) true := by
 refine indTypeI fun x ih hs => ?_
 refine Ev.up ?_
 simp only [laws_eqType.f]
 refine Ev.pos (by simp) ?_
 refine Ev.bind (eqStringS_ev x.f1 hs.p1.1) (Ev.pos (by simp) ?_)
 refine Ev.bind (eqTypeS_of x.f2 hs.p2.1 (fun y hy => ih y hy (hs.p2.2 y hy))) (Ev.pos (by simp) ?_)
 exact Ev.now _
end Go.Proofs.YtpckkjeapfdilaaDoor.Px
end
section
namespace Go.Proofs.YtpckkjeapfdilaaDoor.Px
open Go.RowKit Go.Proofs.YtpckkjeapfdilaaDoorW.PrintWords Go.Proofs.YtpckkjeapfdilaaDoor.Pl
set_option linter.unusedVariables false
set_option linter.unusedSimpArgs false
mutual
def wtTerm : S28 → Nat
 | ⟨x0, x1, x2, x3, x4, x5⟩ => x1.size + wtType x3 + wts x4 + (x5.length + wtTermS x5)
def wtTermS : List S28 → Nat
 | [] => 0
 | x :: r => wtTerm x + wtTermS r
end
mutual
def cvTerm : S28 → S35
 | ⟨x0, x1, x2, x3, x4, x5⟩ => ⟨x0, x1, x2, (cvType x3), x4, (cvTermS x5)⟩
def cvTermS : List S28 → List S35
 | [] => []
 | x :: r => cvTerm x :: cvTermS r
end
theorem wtTermS_sum (xs : List S28) : wtTermS xs = (xs.map wtTerm).sum := by
 induction xs with
 | nil => rfl
 | cons x r ih => simp [wtTermS, ih]
theorem cvTermS_map (xs : List S28) : cvTermS xs = xs.map cvTerm := by
 induction xs with
 | nil => rfl
 | cons x r ih => simp [cvTermS, ih]
theorem wtTerm_eq (x : S28) : wtTerm x = x.f1.size + wtType x.f3 + wts x.f4 + (x.f5.length + wtTermS x.f5) := by cases x; simp only [wtTerm]
theorem cvTerm_eq (x : S28) : cvTerm x = ⟨x.f0, x.f1, x.f2, (cvType x.f3), x.f4, (cvTermS x.f5)⟩ := by cases x; simp only [cvTerm]
theorem indTermL {P : S28 → Prop} (h : ∀ x, (∀ y ∈ x.f5, P y) → P x) : ∀ x, P x
 | ⟨x0, x1, x2, x3, x4, x5⟩ => h _ (fun y hy => indTermL h y)
termination_by x => SizeOf.sizeOf x
decreasing_by
 have := List.sizeOf_lt_of_mem hy
 simp at this ⊢
 omega
theorem indTermI {P : S35 → Prop} (h : ∀ x, (∀ y ∈ x.f5, P y) → P x) : ∀ x, P x
 | ⟨x0, x1, x2, x3, x4, x5⟩ => h _ (fun y hy => indTermI h y)
termination_by x => SizeOf.sizeOf x
decreasing_by
 have := List.sizeOf_lt_of_mem hy
 simp at this ⊢
 omega
inductive SmTerm : S35 → Prop
 | mk {x : S35} : ((Lit.int .i64 x.f0).wf = true) → (x.f1.size ≤ 1048576) → ((Lit.int .i64 x.f2).wf = true) → (SmType x.f3) → ((x.f4.length ≤ 1048576 ∧ ∀ y ∈ x.f4, y.size ≤ 1048576)) → x.f5.length ≤ 1048576 → (∀ y ∈ x.f5, SmTerm y) → SmTerm x
theorem SmTerm.p0 {x : S35} (h : SmTerm x) : (Lit.int .i64 x.f0).wf = true := by cases h; assumption
theorem SmTerm.p1 {x : S35} (h : SmTerm x) : x.f1.size ≤ 1048576 := by cases h; assumption
theorem SmTerm.p2 {x : S35} (h : SmTerm x) : (Lit.int .i64 x.f2).wf = true := by cases h; assumption
theorem SmTerm.p3 {x : S35} (h : SmTerm x) : SmType x.f3 := by cases h; assumption
theorem SmTerm.p4 {x : S35} (h : SmTerm x) : (x.f4.length ≤ 1048576 ∧ ∀ y ∈ x.f4, y.size ≤ 1048576) := by cases h; assumption
theorem SmTerm.p5 {x : S35} (h : SmTerm x) : x.f5.length ≤ 1048576 ∧ ∀ y ∈ x.f5, SmTerm y := by cases h; constructor <;> assumption
theorem etaTerm (x : S35) : (⟨x.f0, x.f1, x.f2, (⟨x.f3.f0, x.f3.f1, x.f3.f2⟩ : S32), x.f4, x.f5⟩ : S35) = x := by obtain ⟨_, _, _, ⟨_, _, _⟩, _, _⟩ := x; rfl
mutual
def ndTerm : S35 → Nat
 | ⟨x0, x1, x2, x3, x4, x5⟩ => 1 + ndTermS x5
def ndTermS : List S35 → Nat
 | [] => 0
 | x :: r => ndTerm x + ndTermS r
end
theorem ndTermS_sum (xs : List S35) : ndTermS xs = (xs.map ndTerm).sum := by
 induction xs with
 | nil => rfl
 | cons x r ih => simp [ndTermS, ih]
theorem ndTerm_eq (x : S35) : ndTerm x = 1 + (x.f5.map ndTerm).sum := by cases x; simp only [ndTerm, ndTermS_sum]
theorem ndTerm_cv : ∀ x : S28, ndTerm (cvTerm x) ≤ wtTerm x + 1 := by
 refine indTermL fun x ih => ?_
 rw [ndTerm_eq, cvTerm_eq, wtTerm_eq]
 have hL : ∀ l : List S28, (∀ y ∈ l, ndTerm (cvTerm y) ≤ wtTerm y + 1) → ((l.map cvTerm).map ndTerm).sum ≤ l.length + (l.map wtTerm).sum := by
  intro l
  induction l with
  | nil => intro _; simp
  | cons y r ih2 =>
   intro h
   have h1 := h y (List.mem_cons_self ..)
   have h2 := ih2 (fun z hz => h z (List.mem_cons_of_mem _ hz))
   simp only [List.map_cons, List.sum_cons, List.length_cons] at h2 ⊢
   omega
 have := hL x.f5 ih
 (try dsimp only)
 rw [cvTermS_map, wtTermS_sum]
 omega
theorem smTerm_of : ∀ x : S28, W28 x → wtTerm x ≤ 1048576 → SmTerm (cvTerm x) := by
 refine indTermL fun x ih hw hw2 => ?_
 have hb := hw2
 rw [wtTerm_eq] at hb
 rw [cvTerm_eq]
 exact SmTerm.mk (hw.p0) (by (try dsimp only); omega) (hw.p2) (smType_of _ hw.p3 (by omega)) (⟨by (try dsimp only); unfold wts at hb; omega, fun y hy => by (try dsimp only at hy); have := sum_le_of_mem ByteArray.size hy; unfold wts szs at hb; omega⟩) (by (try dsimp only); rw [cvTermS_map, List.length_map]; omega) (fun z hz => by
   (try dsimp only at hz)
   rw [cvTermS_map] at hz
   obtain ⟨y, hy, rfl⟩ := List.mem_map.1 hz
   exact ih y hy (hw.p5.2 y hy) (by have := sum_le_of_mem wtTerm hy; rw [← wtTermS_sum] at this; omega))
theorem szTermS_of (xs : List S28) (hx : xs.length ≤ maxLen) (h : ∀ y ∈ xs, ∀ left : Int, 0 ≤ left → left ≤ 1048576 → Ev (fun k => laws_szTerm.f k (y.f0) (y.f1) (y.f2) (y.f3.f0) (y.f3.f1) (y.f3.f2) (y.f4) (y.f5) left) (cut (wtTerm y) left)) (left : Int) (h0 : 0 ≤ left) (hl : left ≤ 1048576) : Ev (fun k => laws_szTermS.f k xs left) (cut (xs.length + wtTermS xs) left) := by
 refine Ev.up ?_
 simp only [laws_szTermS.f]
 have hs := cut_sub (n := xs.length) h0 hl hx
 by_cases hc : cut xs.length left < 0
 ·exact Ev.pos (hs.1.2 hc) (Ev.const (cut_add' hc).symm)
 ·refine Ev.neg (fun h => hc (hs.1.1 h)) ?_
  rw [hs.2 (by omega)]
  have hl2 := cut_le (n := xs.length) h0
  have hw := sz_loop xs.length (fun k i left => laws_szTerm.f k ((rd_T28 xs (i : Int)).f0) ((rd_T28 xs (i : Int)).f1) ((rd_T28 xs (i : Int)).f2) ((rd_T28 xs (i : Int)).f3.f0) ((rd_T28 xs (i : Int)).f3.f1) ((rd_T28 xs (i : Int)).f3.f2) ((rd_T28 xs (i : Int)).f4) ((rd_T28 xs (i : Int)).f5) left) (fun k left i => laws_szTermS.l0 k xs left (i : Int)) (fun i => wtTerm (xs.getD i z28)) (fun k left i hi => by
   simp only [laws_szTermS.l0]
   rw [if_pos (by omega), if_pos (by omega), w1 hi hx]) (fun k left => by simp only [laws_szTermS.l0]; rw [if_neg (by omega)]) (fun i left hi h0 hl => h _ (mem_getD xs z28 i hi) left h0 hl) xs.length 0 _ (by omega) (show 0 ≤ cut xs.length left by omega) (by omega)
  refine Ev.eq hw ?_
  rw [cut_add (by omega), sumF_list wtTerm z28 xs xs.length 0 (by omega), wtTermS_sum]
  rfl
theorem szTerm_ev : ∀ x : S28, W28 x → ∀ left : Int, 0 ≤ left → left ≤ 1048576 → Ev (fun k => laws_szTerm.f k (x.f0) (x.f1) (x.f2) (x.f3.f0) (x.f3.f1) (x.f3.f2) (x.f4) (x.f5) left) (cut (wtTerm x) left) := by
 refine indTermL fun x ih hw left h0 hl => ?_
 refine Ev.up ?_
 simp only [laws_szTerm.f]
 rw [wtTerm_eq]
 have hb0 : (0 : Int) ≤ left ∧ left ≤ 1048576 := ⟨h0, hl⟩
 have hs0 := cut_sub (n := x.f1.size) hb0.1 hb0.2 (hw.p1)
 by_cases hc0 : cut (x.f1.size) left < 0
 ·refine Ev.pos (hs0.1.2 hc0) (Ev.const ?_)
  have hn : cut (x.f1.size) left < 0 := hc0
  have hn : cut (x.f1.size + wtType x.f3) left < 0 := by rw [cut_add' hn]; omega
  have hn : cut (x.f1.size + wtType x.f3 + wts x.f4) left < 0 := by rw [cut_add' hn]; omega
  have hn : cut (x.f1.size + wtType x.f3 + wts x.f4 + (x.f5.length + wtTermS x.f5)) left < 0 := by rw [cut_add' hn]; omega
  have hv := cut_neg.1 hn; unfold cut; rw [if_neg hv]
 refine Ev.neg (fun h => hc0 (hs0.1.1 h)) ?_
 rw [hs0.2 (by omega)]
 have hb1 : (0 : Int) ≤ cut (x.f1.size) left ∧ cut (x.f1.size) left ≤ 1048576 := ⟨by omega, by have := cut_le (n := x.f1.size) h0; omega⟩
 refine Ev.bind (szType_ev x.f3 hw.p3 _ hb1.1 hb1.2) ?_
 by_cases hc1 : cut (wtType x.f3) (cut (x.f1.size) left) < 0
 ·refine Ev.pos hc1 (Ev.const ?_)
  have hn : cut (x.f1.size + wtType x.f3) left < 0 := by rw [← cut_add (by omega)]; exact hc1
  have hn : cut (x.f1.size + wtType x.f3 + wts x.f4) left < 0 := by rw [cut_add' hn]; omega
  have hn : cut (x.f1.size + wtType x.f3 + wts x.f4 + (x.f5.length + wtTermS x.f5)) left < 0 := by rw [cut_add' hn]; omega
  have hv := cut_neg.1 hn; unfold cut; rw [if_neg hv]
 refine Ev.neg hc1 ?_
 rw [cut_add (by omega)] at hc1 ⊢
 have hb2 : (0 : Int) ≤ cut (x.f1.size + wtType x.f3) left ∧ cut (x.f1.size + wtType x.f3) left ≤ 1048576 := ⟨by omega, by have := cut_le (n := x.f1.size + wtType x.f3) h0; omega⟩
 refine Ev.bind (szStringS_ev x.f4 hw.p4 _ hb2.1 hb2.2) ?_
 by_cases hc2 : cut (wts x.f4) (cut (x.f1.size + wtType x.f3) left) < 0
 ·refine Ev.pos hc2 (Ev.const ?_)
  have hn : cut (x.f1.size + wtType x.f3 + wts x.f4) left < 0 := by rw [← cut_add (by omega)]; exact hc2
  have hn : cut (x.f1.size + wtType x.f3 + wts x.f4 + (x.f5.length + wtTermS x.f5)) left < 0 := by rw [cut_add' hn]; omega
  have hv := cut_neg.1 hn; unfold cut; rw [if_neg hv]
 refine Ev.neg hc2 ?_
 rw [cut_add (by omega)] at hc2 ⊢
 have hb3 : (0 : Int) ≤ cut (x.f1.size + wtType x.f3 + wts x.f4) left ∧ cut (x.f1.size + wtType x.f3 + wts x.f4) left ≤ 1048576 := ⟨by omega, by have := cut_le (n := x.f1.size + wtType x.f3 + wts x.f4) h0; omega⟩
 refine Ev.bind (szTermS_of x.f5 hw.p5.1 (fun y hy => ih y hy (hw.p5.2 y hy)) _ hb3.1 hb3.2) ?_
 by_cases hc3 : cut ((x.f5.length + wtTermS x.f5)) (cut (x.f1.size + wtType x.f3 + wts x.f4) left) < 0
 ·refine Ev.pos hc3 (Ev.const ?_)
  have hn : cut (x.f1.size + wtType x.f3 + wts x.f4 + (x.f5.length + wtTermS x.f5)) left < 0 := by rw [← cut_add (by omega)]; exact hc3
  have hv := cut_neg.1 hn; unfold cut; rw [if_neg hv]
 refine Ev.neg hc3 ?_
 rw [cut_add (by omega)] at hc3 ⊢
 have hb4 : (0 : Int) ≤ cut (x.f1.size + wtType x.f3 + wts x.f4 + (x.f5.length + wtTermS x.f5)) left ∧ cut (x.f1.size + wtType x.f3 + wts x.f4 + (x.f5.length + wtTermS x.f5)) left ≤ 1048576 := ⟨by omega, by have := cut_le (n := x.f1.size + wtType x.f3 + wts x.f4 + (x.f5.length + wtTermS x.f5)) h0; omega⟩
 exact Ev.const rfl
theorem toTermS_of (xs : List S28) (hx : xs.length ≤ 1048576) (h : ∀ y ∈ xs, Ev (fun k => laws_toTerm.f k (y.f0) (y.f1) (y.f2) (y.f3.f0) (y.f3.f1) (y.f3.f2) (y.f4) (y.f5)) ((cvTerm y).f0, (cvTerm y).f1, (cvTerm y).f2, (cvTerm y).f3.f0, (cvTerm y).f3.f1, (cvTerm y).f3.f2, (cvTerm y).f4, (cvTerm y).f5)) : Ev (fun k => laws_toTermS.f k xs) (cvTermS xs) := by
 refine Ev.up ?_
 simp only [laws_toTermS.f]
 refine Ev.pos (by omega) (Ev.pos (by omega) ?_)
 have hw := to_loop xs.length (fun k i => (laws_toTerm.f k ((rd_T28 xs (i : Int)).f0) ((rd_T28 xs (i : Int)).f1) ((rd_T28 xs (i : Int)).f2) ((rd_T28 xs (i : Int)).f3.f0) ((rd_T28 xs (i : Int)).f3.f1) ((rd_T28 xs (i : Int)).f3.f2) ((rd_T28 xs (i : Int)).f4) ((rd_T28 xs (i : Int)).f5)).map fun t => (⟨t.1, t.2.1, t.2.2.1, (⟨t.2.2.2.1, t.2.2.2.2.1, t.2.2.2.2.2.1⟩ : S32), t.2.2.2.2.2.2.1, t.2.2.2.2.2.2.2⟩ : S35)) (fun k out i => laws_toTermS.l0 k xs out (i : Int)) (fun i => cvTerm (xs.getD i z28)) (fun k out i hi hl => by
  simp only [laws_toTermS.l0]
  rw [if_pos (by omega), if_pos (by omega)]
  rcases laws_toTerm.f k ((rd_T28 xs (i : Int)).f0) ((rd_T28 xs (i : Int)).f1) ((rd_T28 xs (i : Int)).f2) ((rd_T28 xs (i : Int)).f3.f0) ((rd_T28 xs (i : Int)).f3.f1) ((rd_T28 xs (i : Int)).f3.f2) ((rd_T28 xs (i : Int)).f4) ((rd_T28 xs (i : Int)).f5) with _ | t
  ·rfl
  ·simp only [Option.map_some, Option.bind_some]
   rw [if_pos (by omega), w1' hi hx]
   rfl) (fun k out => by simp only [laws_toTermS.l0]; rw [if_neg (by omega)]) (fun i hi => Ev.eq (Ev.map (fun t => (⟨t.1, t.2.1, t.2.2.1, (⟨t.2.2.2.1, t.2.2.2.2.1, t.2.2.2.2.2.1⟩ : S32), t.2.2.2.2.2.2.1, t.2.2.2.2.2.2.2⟩ : S35)) (h _ (mem_getD xs z28 i hi))) (etaTerm _)) xs.length 0 (List.replicate ((xs.length : Int)).toNat z35) (by omega) (by simp)
 refine Ev.eq hw ?_
 rw [List.take_zero, List.nil_append, range_map_getElem cvTerm z28 xs, cvTermS_map]
theorem toTerm_ev : ∀ x : S28, wtTerm x ≤ 1048576 → Ev (fun k => laws_toTerm.f k (x.f0) (x.f1) (x.f2) (x.f3.f0) (x.f3.f1) (x.f3.f2) (x.f4) (x.f5)) ((cvTerm x).f0, (cvTerm x).f1, (cvTerm x).f2, (cvTerm x).f3.f0, (cvTerm x).f3.f1, (cvTerm x).f3.f2, (cvTerm x).f4, (cvTerm x).f5) := by
 refine indTermL fun x ih hw2 => ?_
 refine Ev.up ?_
 simp only [laws_toTerm.f]
 have hb := hw2
 rw [wtTerm_eq] at hb
 refine Ev.bind (toType_ev x.f3 (by omega)) ?_
 refine Ev.bind (toStringS_ev x.f4 (by unfold wts at hb; omega)) ?_
 refine Ev.bind (toTermS_of x.f5 (by omega) (fun y hy => ih y hy (by have := sum_le_of_mem wtTerm hy; rw [← wtTermS_sum] at this; omega))) ?_
 exact Ev.const (by rw [cvTerm_eq])
theorem eqTermS_of (xs : List S35) (hx : xs.length ≤ 1048576) (h : ∀ y ∈ xs, Ev (fun k => laws_eqTerm.f k (y.f0) (y.f1) (y.f2) (y.f3.f0) (y.f3.f1) (y.f3.f2) (y.f4) (y.f5) (y.f0) (y.f1) (y.f2) (y.f3.f0) (y.f3.f1) (y.f3.f2) (y.f4) (y.f5)) true) : Ev (fun k => laws_eqTermS.f k xs xs) true := by
 refine Ev.up ?_
 simp only [laws_eqTermS.f]
 refine Ev.pos (by simp) ?_
 exact eq_loop xs.length (fun k i => laws_eqTerm.f k ((rd_T35 xs (i : Int)).f0) ((rd_T35 xs (i : Int)).f1) ((rd_T35 xs (i : Int)).f2) ((rd_T35 xs (i : Int)).f3.f0) ((rd_T35 xs (i : Int)).f3.f1) ((rd_T35 xs (i : Int)).f3.f2) ((rd_T35 xs (i : Int)).f4) ((rd_T35 xs (i : Int)).f5) ((rd_T35 xs (i : Int)).f0) ((rd_T35 xs (i : Int)).f1) ((rd_T35 xs (i : Int)).f2) ((rd_T35 xs (i : Int)).f3.f0) ((rd_T35 xs (i : Int)).f3.f1) ((rd_T35 xs (i : Int)).f3.f2) ((rd_T35 xs (i : Int)).f4) ((rd_T35 xs (i : Int)).f5)) (fun k i => laws_eqTermS.l0 k xs xs (i : Int)) (fun k i hi => by
  simp only [laws_eqTermS.l0]
  rw [if_pos (by omega), if_pos (by omega), if_pos (by omega), w1' hi hx]) (fun k => by simp only [laws_eqTermS.l0]; rw [if_neg (by omega)]) (fun i hi => h _ (mem_getD xs z35 i hi)) xs.length 0 (by omega)
theorem eqTerm_ev : ∀ x : S35, SmTerm x → Ev (fun k => laws_eqTerm.f k (x.f0) (x.f1) (x.f2) (x.f3.f0) (x.f3.f1) (x.f3.f2) (x.f4) (x.f5) (x.f0) (x.f1) (x.f2) (x.f3.f0) (x.f3.f1) (x.f3.f2) (x.f4) (x.f5)) true := by
 refine indTermI fun x ih hs => ?_
 refine Ev.up ?_
 simp only [laws_eqTerm.f]
 refine Ev.pos (by simp) ?_
 refine Ev.pos (by simp) ?_
 refine Ev.pos (by simp) ?_
 refine Ev.bind (eqType_ev x.f3 hs.p3) (Ev.pos (by simp) ?_)
 refine Ev.bind (eqStringS_ev x.f4 hs.p4.1) (Ev.pos (by simp) ?_)
 refine Ev.bind (eqTermS_of x.f5 hs.p5.1 (fun y hy => ih y hy (hs.p5.2 y hy))) (Ev.pos (by simp) ?_)
 exact Ev.now _
end Go.Proofs.YtpckkjeapfdilaaDoor.Px
end
section
namespace Go.Proofs.YtpckkjeapfdilaaDoor.Px
open Go.RowKit Go.Proofs.YtpckkjeapfdilaaDoorW.PrintWords Go.Proofs.YtpckkjeapfdilaaDoorW.PrintLast Go.Proofs.YtpckkjeapfdilaaDoor.Pl Go.Proofs.YtpckkjeapfdilaaDoor.Ext
set_option linter.unusedVariables false
set_option linter.unusedSimpArgs false
inductive HT where
 | lf (v : Value)
 | row (e sz n : Nat) (v : Value) (cs : List HT)
def HT.val : HT → Value
 | .lf v => v
 | .row _ _ _ v _ => v
mutual
def HT.bl : HT → List Nat
 | .lf _ => []
 | .row _ _ _ v cs => v.ownBlock.toList ++ blS cs
def blS : List HT → List Nat
 | [] => []
 | h :: r => h.bl ++ blS r
end
mutual
def HT.Ok (w : World) (base : Nat) : HT → Prop
 | .lf v => v.oneCell' = true
 | .row e sz n v cs => w.ownsRow base e sz v n (cs.map HT.val) ∧ OkS w base cs
def OkS (w : World) (base : Nat) : List HT → Prop
 | [] => True
 | h :: r => h.Ok w base ∧ OkS w base r
end
theorem blS_append (a b : List HT) : blS (a ++ b) = blS a ++ blS b := by
 induction a with
 | nil => simp [blS]
 | cons x r ih => simp [blS, ih]
theorem OkS_append {w : World} {base : Nat} (a b : List HT) : OkS w base (a ++ b) ↔ OkS w base a ∧ OkS w base b := by
 induction a with
 | nil => simp [OkS]
 | cons x r ih => simp [OkS, ih, and_assoc]
mutual
theorem Ok_move {w w1 : World} {base : Nat} : ∀ h : HT, (∀ b ∈ h.bl, w1.heap[b]? = w.heap[b]?) → h.Ok w base → h.Ok w1 base
 | .lf v, _, h => by simpa only [HT.Ok] using h
 | .row e sz n v cs, hm, h => by
  simp only [HT.Ok] at h ⊢
  simp only [HT.bl, List.mem_append] at hm
  exact ⟨own_move h.1 (fun k hk => hm k (Or.inl (by simp [hk]))), OkS_move cs (fun b hb => hm b (Or.inr hb)) h.2⟩
theorem OkS_move {w w1 : World} {base : Nat} : ∀ l : List HT, (∀ b ∈ blS l, w1.heap[b]? = w.heap[b]?) → OkS w base l → OkS w1 base l
 | [], _, _ => by simp only [OkS]
 | x :: r, hm, h => by
  simp only [OkS] at h ⊢
  simp only [blS, List.mem_append] at hm
  exact ⟨Ok_move x (fun b hb => hm b (Or.inl hb)) h.1, OkS_move r (fun b hb => hm b (Or.inr hb)) h.2⟩
end
mutual
theorem Ok_in {w : World} {base : Nat} : ∀ h : HT, h.Ok w base → ∀ b ∈ h.bl, base ≤ b ∧ b < w.heap.size
 | .lf v, _, b, hb => by simp [HT.bl] at hb
 | .row e sz n v cs, h, b, hb => by
  simp only [HT.Ok] at h
  simp only [HT.bl, List.mem_append] at hb
  rcases hb with hb | hb
  ·have hb' : v.ownBlock = some b := by simpa using hb
   exact ⟨own_base h.1 b hb', own_lt h.1 b hb'⟩
  ·exact OkS_in cs h.2 b hb
theorem OkS_in {w : World} {base : Nat} : ∀ l : List HT, OkS w base l → ∀ b ∈ blS l, base ≤ b ∧ b < w.heap.size
 | [], _, b, hb => by simp [blS] at hb
 | x :: r, h, b, hb => by
  simp only [OkS] at h
  simp only [blS, List.mem_append] at hb
  rcases hb with hb | hb
  ·exact Ok_in x h.1 b hb
  ·exact OkS_in r h.2 b hb
end
mutual
theorem Ok_lower {w : World} {base base' : Nat} (hb : base' ≤ base) : ∀ h : HT, h.Ok w base → h.Ok w base'
 | .lf v, h => by simpa only [HT.Ok] using h
 | .row e sz n v cs, h => by
  simp only [HT.Ok] at h ⊢
  exact ⟨own_weaken h.1 hb, OkS_lower hb cs h.2⟩
theorem OkS_lower {w : World} {base base' : Nat} (hb : base' ≤ base) : ∀ l : List HT, OkS w base l → OkS w base' l
 | [], _ => by simp only [OkS]
 | x :: r, h => by
  simp only [OkS] at h ⊢
  exact ⟨Ok_lower hb x h.1, OkS_lower hb r h.2⟩
end
theorem OkS_below {w w1 : World} {base : Nat} {l : List HT} (h : OkS w base l) (hb : Below w.heap.size w w1) : OkS w1 base l := OkS_move l (fun b hm => hb.block b (OkS_in l h b hm).2) h
theorem OkS_one {w : World} {base : Nat} : ∀ {l : List HT}, OkS w base l → ∀ u ∈ l.map HT.val, u.oneCell' = true
 | [], _, u, hu => by simp at hu
 | x :: r, h, u, hu => by
  simp only [OkS] at h
  simp only [List.map_cons, List.mem_cons] at hu
  rcases hu with rfl | hu
  ·cases x with
   | lf v => simpa only [HT.Ok, HT.val] using h.1
   | row e sz n v cs =>
    simp only [HT.Ok] at h
    obtain ⟨A, c, rfl⟩ := own_slice h.1.1
    rfl
  ·exact OkS_one h.2 u hu
def Apt (w : World) (base : Nat) (l : List HT) : Prop := OkS w base l ∧ (blS l).Nodup
theorem Apt_below {w w1 : World} {base : Nat} {l : List HT} (h : Apt w base l) (hb : Below w.heap.size w w1) : Apt w1 base l := ⟨OkS_below h.1 hb, h.2⟩
theorem Apt_lower {w : World} {base base' : Nat} {l : List HT} (h : Apt w base l) (hb : base' ≤ base) : Apt w base' l := ⟨OkS_lower hb l h.1, h.2⟩
theorem Apt_move {w w1 : World} {base : Nat} {l : List HT} (h : Apt w base l) (hm : ∀ b ∈ blS l, w1.heap[b]? = w.heap[b]?) : Apt w1 base l := ⟨OkS_move l hm h.1, h.2⟩
theorem Apt_append {w w1 : World} {base n : Nat} {a b : List HT} (ha : Apt w base a) (hm : ∀ k ∈ blS a, w1.heap[k]? = w.heap[k]?) (hn : w.heap.size ≤ n) (hb : Apt w1 n b) (hbase : base ≤ n) : Apt w1 base (a ++ b) := by
 refine ⟨(OkS_append a b).2 ⟨OkS_move a hm ha.1, OkS_lower hbase b hb.1⟩, ?_⟩
 rw [blS_append]
 refine List.nodup_append.2 ⟨ha.2, hb.2, fun x hx y hy => ?_⟩
 have := (OkS_in a ha.1 x hx).2
 have := (OkS_in b hb.1 y hy).1
 omega
theorem Apt_parts {w : World} {base : Nat} {a b : List HT} (h : Apt w base (a ++ b)) : Apt w base a ∧ Apt w base b ∧ ∀ x ∈ blS a, ∀ y ∈ blS b, x ≠ y := by
 obtain ⟨h1, h2⟩ := h
 rw [OkS_append] at h1
 rw [blS_append, List.nodup_append] at h2
 exact ⟨⟨h1.1, h2.1⟩, ⟨h1.2, h2.2.1⟩, h2.2.2⟩
def strH (s : ByteArray) : HT := .lf (.string s)
theorem strH_val (ls : List ByteArray) : (ls.map strH).map HT.val = ls.map Value.string := by simp [strH, HT.val]
theorem strH_bl (ls : List ByteArray) : blS (ls.map strH) = [] := by
 induction ls with
 | nil => rfl
 | cons x r ih => simp [blS, strH, HT.bl, ih]
theorem strH_ok {w : World} {base : Nat} (ls : List ByteArray) : OkS w base (ls.map strH) := by
 induction ls with
 | nil => simp only [List.map_nil, OkS]
 | cons x r ih =>
  simp only [List.map_cons, OkS]
  exact ⟨by simp only [strH, HT.Ok]; rfl, ih⟩
def strR (v : Value) (ls : List ByteArray) : HT := .row 9 1 ls.length v (ls.map strH)
theorem strR_bl (v : Value) (ls : List ByteArray) : (strR v ls).bl = v.ownBlock.toList := by simp [strR, HT.bl, strH_bl]
theorem strR_of {w : World} {base : Nat} {ok : Nat → Prop} {v : Value} {ls : List ByteArray} (h : Kd.R Kd.string 9 w base ok v ls) : (strR v ls).Ok w base := by
 simp only [strR, HT.Ok]
 exact ⟨by rw [strH_val]; exact Kd.own_of_R h, strH_ok ls⟩
theorem R_of_strR {w : World} {base : Nat} {v : Value} {ls : List ByteArray} (h : (strR v ls).Ok w base) : Kd.R Kd.string 9 w base (fun k => v.ownBlock = some k) v ls := by
 simp only [strR, HT.Ok] at h
 rw [strH_val] at h
 exact Kd.R_of_own h.1 (fun k hk => hk)
mutual
def TyE : S32 → List HT → Prop
 | ⟨k, ls, xs⟩, hs => ∃ v1 v2 cs, hs = [.lf (.int .i64 k), strR v1 ls, .row 32 3 xs.length v2 cs] ∧ TyES xs cs
def TyES : List S32 → List HT → Prop
 | [], cs => cs = []
 | x :: r, cs => ∃ a b, cs = a ++ b ∧ TyE x a ∧ TyES r b
end
theorem TyE_eq (x : S32) (hs : List HT) : TyE x hs ↔ ∃ v1 v2 cs, hs = [.lf (.int .i64 x.f0), strR v1 x.f1, .row 32 3 x.f2.length v2 cs] ∧ TyES x.f2 cs := by cases x; simp only [TyE]
theorem TyES_snoc : ∀ (xs : List S32) (cs : List HT) (x : S32) (a : List HT), TyES xs cs → TyE x a → TyES (xs ++ [x]) (cs ++ a)
 | [], cs, x, a, h, hx => by
  simp only [TyES] at h
  subst h
  simp only [List.nil_append, TyES]
  exact ⟨a, [], by simp, hx, rfl⟩
 | y :: r, cs, x, a, h, hx => by
  simp only [TyES] at h
  obtain ⟨p, q, rfl, hp, hq⟩ := h
  simp only [List.cons_append, TyES]
  exact ⟨p, q ++ a, by simp [List.append_assoc], hp, TyES_snoc r q x a hq hx⟩
theorem TyE_len {x : S32} {hs : List HT} (h : TyE x hs) : hs.length = 3 := by
 obtain ⟨_, _, _, rfl, _⟩ := (TyE_eq x hs).1 h
 rfl
mutual
def TeE : S35 → List HT → Prop
 | ⟨k, nm, n, t, ls, xs⟩, hs => ∃ ts v1 v2 cs, hs = [.lf (.int .i64 k), .lf (.string nm), .lf (.int .i64 n)] ++ ts ++ [strR v1 ls, .row 35 8 xs.length v2 cs] ∧ TyE t ts ∧ TeES xs cs
def TeES : List S35 → List HT → Prop
 | [], cs => cs = []
 | x :: r, cs => ∃ a b, cs = a ++ b ∧ TeE x a ∧ TeES r b
end
theorem TeE_eq (x : S35) (hs : List HT) : TeE x hs ↔ ∃ ts v1 v2 cs, hs = [.lf (.int .i64 x.f0), .lf (.string x.f1), .lf (.int .i64 x.f2)] ++ ts ++ [strR v1 x.f4, .row 35 8 x.f5.length v2 cs] ∧ TyE x.f3 ts ∧ TeES x.f5 cs := by cases x; simp only [TeE]
theorem TeES_snoc : ∀ (xs : List S35) (cs : List HT) (x : S35) (a : List HT), TeES xs cs → TeE x a → TeES (xs ++ [x]) (cs ++ a)
 | [], cs, x, a, h, hx => by
  simp only [TeES] at h
  subst h
  simp only [List.nil_append, TeES]
  exact ⟨a, [], by simp, hx, rfl⟩
 | y :: r, cs, x, a, h, hx => by
  simp only [TeES] at h
  obtain ⟨p, q, rfl, hp, hq⟩ := h
  simp only [List.cons_append, TeES]
  exact ⟨p, q ++ a, by simp [List.append_assoc], hp, TeES_snoc r q x a hq hx⟩
theorem TeE_len {x : S35} {hs : List HT} (h : TeE x hs) : hs.length = 8 := by
 obtain ⟨ts, _, _, _, rfl, ht, _⟩ := (TeE_eq x hs).1 h
 have := TyE_len ht
 simp [this]
theorem reps_cons {α : Type} {R : α → List Value → Prop} {sz : Nat} {x : α} {xs : List α} {c cs : List Value} (hl : c.length = sz) (hc : R x c) (h : Reps R sz xs cs) : Reps R sz (x :: xs) (c ++ cs) := by
 refine ⟨by rw [List.length_append, h.1, hl, List.length_cons, Nat.add_mul]; omega, fun j p hj => ?_⟩
 cases j with
 | zero =>
  obtain rfl : x = p := by simpa using hj
  rw [Nat.zero_mul, List.drop_zero, ← hl, List.take_left]
  exact hc
 | succ j =>
  have h2 := h.2 j p (by simpa using hj)
  have e : (c ++ cs).drop ((j + 1) * sz) = cs.drop (j * sz) := by
   rw [show (j + 1) * sz = c.length + j * sz by rw [hl, Nat.add_mul]; omega, List.drop_append]
   simp
  rw [e]
  exact h2
theorem TyES_read : ∀ (xs : List S32), (∀ x ∈ xs, ∀ w base hs, TyE x hs → OkS w base hs → k32.K w x (hs.map HT.val)) → ∀ w base cs, TyES xs cs → OkS w base cs → Reps (k32.K w) 3 xs (cs.map HT.val)
 | [], _, w, base, cs, h, _ => by
  simp only [TyES] at h
  subst h
  exact Reps.none _ _
 | y :: r, hK, w, base, cs, h, ho => by
  simp only [TyES] at h
  obtain ⟨p, q, rfl, hp, hq⟩ := h
  rw [OkS_append] at ho
  rw [List.map_append]
  exact reps_cons (by rw [List.length_map]; exact TyE_len hp) (hK y List.mem_cons_self w base p hp ho.1) (TyES_read r (fun x hx => hK x (List.mem_cons_of_mem _ hx)) w base q hq ho.2)
theorem TyE_K : ∀ x : S32, ∀ w base hs, TyE x hs → OkS w base hs → k32.K w x (hs.map HT.val) := by
 refine indTypeI fun x ih w base hs h ho => ?_
 obtain ⟨v1, v2, cs, rfl, hc⟩ := (TyE_eq x hs).1 h
 simp only [OkS, HT.Ok] at ho
 obtain ⟨_, ho1, ho2, _⟩ := ho
 obtain ⟨A1, c1, e1, l1, r1⟩ := Kd.R_reads (R_of_strR ho1)
 have hr := TyES_read x.f2 (fun y hy w base hs => ih y hy w base hs) w base cs hc ho2.2
 obtain ⟨A2, c2, e2, l2, r2⟩ := OwnRow.reads (R := k32.K w) (e := 32) (size := 3) (w := w) (base := base) (v := v2) (ps := x.f2) ⟨_, ho2.1, hr⟩
 subst e1 e2
 exact k32_mk w x l1 r1 l2 r2
theorem TyES_C {w : World} {base : Nat} {v : Value} {xs : List S32} {cs : List HT} (h : TyES xs cs) (ho : (HT.row 32 3 xs.length v cs).Ok w base) : ∃ A c, v = .slice A xs.length c ∧ xs.length ≤ c ∧ Kd.C k32 w A xs.length xs := by
 simp only [HT.Ok] at ho
 have hr := TyES_read xs (fun y _ w base hs => TyE_K y w base hs) w base cs h ho.2
 exact OwnRow.reads (R := k32.K w) (e := 32) (size := 3) (w := w) (base := base) (v := v) (ps := xs) ⟨_, ho.1, hr⟩
theorem TeES_read : ∀ (xs : List S35), (∀ x ∈ xs, ∀ w base hs, TeE x hs → OkS w base hs → k35.K w x (hs.map HT.val)) → ∀ w base cs, TeES xs cs → OkS w base cs → Reps (k35.K w) 8 xs (cs.map HT.val)
 | [], _, w, base, cs, h, _ => by
  simp only [TeES] at h
  subst h
  exact Reps.none _ _
 | y :: r, hK, w, base, cs, h, ho => by
  simp only [TeES] at h
  obtain ⟨p, q, rfl, hp, hq⟩ := h
  rw [OkS_append] at ho
  rw [List.map_append]
  exact reps_cons (by rw [List.length_map]; exact TeE_len hp) (hK y List.mem_cons_self w base p hp ho.1) (TeES_read r (fun x hx => hK x (List.mem_cons_of_mem _ hx)) w base q hq ho.2)
theorem TeE_K : ∀ x : S35, ∀ w base hs, TeE x hs → OkS w base hs → k35.K w x (hs.map HT.val) := by
 refine indTermI fun x ih w base hs h ho => ?_
 obtain ⟨ts, v1, v2, cs, rfl, ht, hc⟩ := (TeE_eq x hs).1 h
 obtain ⟨u1, u2, us, rfl, hu⟩ := (TyE_eq x.f3 ts).1 ht
 simp only [List.cons_append, List.nil_append, OkS, HT.Ok] at ho
 obtain ⟨_, _, _, _, p1, p2, ho1, ho2, _⟩ := ho
 obtain ⟨A3, c3, e3, l3, r3⟩ := Kd.R_reads (R_of_strR p1)
 obtain ⟨A4, c4, e4, l4, r4⟩ := TyES_C hu (v := u2) (base := base) (by simp only [HT.Ok]; exact p2)
 obtain ⟨A1, c1, e1, l1, r1⟩ := Kd.R_reads (R_of_strR ho1)
 have hr := TeES_read x.f5 (fun y hy w base hs => ih y hy w base hs) w base cs hc ho2.2
 obtain ⟨A2, c2, e2, l2, r2⟩ := OwnRow.reads (R := k35.K w) (e := 35) (size := 8) (w := w) (base := base) (v := v2) (ps := x.f5) ⟨_, ho2.1, hr⟩
 subst e1 e2 e3 e4
 exact k35_mk w x l3 r3 l4 r4 l1 r1 l2 r2
theorem TeES_C {w : World} {base : Nat} {v : Value} {xs : List S35} {cs : List HT} (h : TeES xs cs) (ho : (HT.row 35 8 xs.length v cs).Ok w base) : ∃ A c, v = .slice A xs.length c ∧ xs.length ≤ c ∧ Kd.C k35 w A xs.length xs := by
 simp only [HT.Ok] at ho
 have hr := TeES_read xs (fun y _ w base hs => TeE_K y w base hs) w base cs h ho.2
 exact OwnRow.reads (R := k35.K w) (e := 35) (size := 8) (w := w) (base := base) (v := v) (ps := xs) ⟨_, ho.1, hr⟩
def putA (cs : Array Value) : Nat → List Value → Array Value
 | _, [] => cs
 | o, v :: r => putA (cs.setIfInBounds o v) (o + 1) r
theorem box_sets {g : Nat} {t : TypeId} : ∀ (vs : List Value) (o : Nat) {w : World} {cs : Array Value}, w.heap[g]? = some (.cells cs t (0, 0)) → (w.setCells g o vs).heap[g]? = some (.cells (putA cs o vs) t (0, 0))
 | [], o, w, cs, h => h
 | v :: r, o, w, cs, h => box_sets r (o + 1) (blk_put h o v rfl)
theorem box_far_sets {w : World} {g k : Nat} {t : TypeId} {cs : Array Value} (h : w.heap[k]? = some (.cells cs t (0, 0))) (hne : k ≠ g) (o : Nat) (vs : List Value) : (w.setCells g o vs).heap[k]? = some (.cells cs t (0, 0)) := (setCells_far vs o k hne).trans h
theorem below_sets {w0 w : World} {B g : Nat} : ∀ (vs : List Value) (o : Nat) {w : World}, Below B w0 w → B ≤ g → Below B w0 (w.setCells g o vs)
 | [], o, w, h, _ => h
 | v :: r, o, w, h, hg => below_sets r (o + 1) (w := w.setCell ⟨g, o, none⟩ v) (h.setCell (p := ⟨g, o, none⟩) hg v) hg
theorem Apt_sets {w : World} {base g : Nat} {l : List HT} (h : Apt w base l) (hne : ∀ b ∈ blS l, b ≠ g) (o : Nat) (vs : List Value) : Apt (w.setCells g o vs) base l := Apt_move h (fun b hb => setCells_far vs o b (hne b hb))
theorem Apt_ge {w : World} {base g : Nat} {l : List HT} (h : Apt w base l) (hg : g < base) : ∀ b ∈ blS l, b ≠ g := fun b hb => by have := (OkS_in l h.1 b hb).1; omega
theorem Apt_lt {w : World} {base : Nat} {l : List HT} (h : Apt w base l) : ∀ b ∈ blS l, b < w.heap.size := fun b hb => (OkS_in l h.1 b hb).2
theorem Apt_grown {w w1 : World} {base : Nat} {l : List HT} {row : Option Nat} (h : Apt w base l) (hg : w.grownBy w1 row) (hne : ∀ b ∈ blS l, some b ≠ row) : Apt w1 base l := Apt_move h (fun b hb => hg.block b (Apt_lt h b hb) (hne b hb))
theorem Apt_join {w : World} {base n : Nat} {a b : List HT} (ha : Apt w base a) (hb : Apt w n b) (hlt : ∀ x ∈ blS a, x < n) (hbase : base ≤ n) : Apt w base (a ++ b) := by
 refine ⟨(OkS_append a b).2 ⟨ha.1, OkS_lower hbase b hb.1⟩, ?_⟩
 rw [blS_append]
 refine List.nodup_append.2 ⟨ha.2, hb.2, fun x hx y hy => ?_⟩
 have := hlt x hx
 have := (OkS_in b hb.1 y hy).1
 omega
theorem row_own {e sz n : Nat} {v : Value} {cs : List HT} {b : Nat} (h : v.ownBlock = some b) : b ∈ blS [HT.row e sz n v cs] := by simp [blS, HT.bl, h]
theorem row_append {W w1 : World} {e sz n base0 base m : Nat} {v v1 : Value} {cs hs : List HT} (h : Apt W base [.row e sz n v cs]) (hh : Apt W m hs) (hm : ∀ b ∈ blS [HT.row e sz n v cs], b < m) (hbm : base ≤ m) (hbW : base ≤ W.heap.size)
  (ho : w1.ownsRow base0 e sz v1 (n + 1) (cs.map HT.val ++ hs.map HT.val)) (hg : W.grownBy w1 v.ownBlock) (hat : v1.ownBlock = v.ownBlock ∨ ∃ b, v1.ownBlock = some b ∧ W.heap.size ≤ b) : Apt w1 base [.row e sz (n + 1) v1 (cs ++ hs)] := by
 obtain ⟨h1, h2⟩ := h
 simp only [OkS, HT.Ok, and_true] at h1
 have hb1 : blS [HT.row e sz n v cs] = v.ownBlock.toList ++ blS cs := by simp [blS, HT.bl]
 rw [hb1, List.nodup_append] at h2
 have hncs : ∀ b ∈ blS cs, some b ≠ v.ownBlock := fun b hb he => h2.2.2 b (by simp [← he]) b hb rfl
 have hnhs : ∀ b ∈ blS hs, some b ≠ v.ownBlock := fun b hb he => by
  have k1 := hm b (row_own he.symm)
  have k2 := (OkS_in hs hh.1 b hb).1
  omega
 have ocs : OkS w1 base cs := OkS_move cs (fun b hb => hg.block b (OkS_in cs h1.2 b hb).2 (hncs b hb)) h1.2
 have ohs : OkS w1 m hs := OkS_move hs (fun b hb => hg.block b (OkS_in hs hh.1 b hb).2 (hnhs b hb)) hh.1
 have own : ∀ b, v1.ownBlock = some b → base ≤ b ∧ b ∉ blS cs ∧ b ∉ blS hs := by
  intro b hb
  rcases hat with hat | ⟨b', hb', hle⟩
  ·rw [hat] at hb
   exact ⟨own_base h1.1 b hb, fun hc => hncs b hc hb.symm, fun hc => hnhs b hc hb.symm⟩
  ·obtain rfl : b' = b := by rw [hb'] at hb; exact Option.some.inj hb
   exact ⟨by omega, fun hc => by have := (OkS_in cs h1.2 _ hc).2; omega, fun hc => by have := (OkS_in hs hh.1 _ hc).2; omega⟩
 refine ⟨?_, ?_⟩
 ·simp only [OkS, HT.Ok, and_true]
  refine ⟨?_, (OkS_append cs hs).2 ⟨ocs, OkS_lower hbm hs ohs⟩⟩
  rw [List.map_append]
  obtain ⟨p1, p2⟩ := ho
  refine ⟨p1, ?_⟩
  rcases p2 with p2 | ⟨g, cap, cur, rfl, hgb, rest⟩
  ·exact .inl p2
  ·exact .inr ⟨g, cap, cur, rfl, (own g (by simp [Value.ownBlock])).1, rest⟩
 ·simp only [blS, HT.bl, List.append_nil]
  rw [blS_append]
  refine List.nodup_append.2 ⟨by cases v1.ownBlock <;> simp, List.nodup_append.2 ⟨h2.2.1, hh.2, fun x hx y hy => ?_⟩, fun x hx y hy => ?_⟩
  ·have k1 := hm x (by rw [hb1]; exact List.mem_append_right _ hx)
   have k2 := (OkS_in hs hh.1 y hy).1
   omega
  ·have hx' : v1.ownBlock = some x := by simpa using hx
   have k := own x hx'
   rintro rfl
   rcases List.mem_append.1 hy with hy | hy
   ·exact k.2.1 hy
   ·exact k.2.2 hy
theorem row_cells {W : World} {e sz n base : Nat} {v : Value} {cs : List HT} (h : Apt W base [.row e sz n v cs]) : W.ownsRow base e sz v n (cs.map HT.val) := by
 have := h.1
 simp only [OkS, HT.Ok, and_true] at this
 exact this.1
theorem row_nil (w : World) (base e sz : Nat) : Apt w base [.row e sz 0 (.slice none 0 0) []] := by
 refine ⟨?_, by simp [blS, HT.bl, Value.ownBlock]⟩
 simp only [OkS, HT.Ok, and_true]
 exact own_nil _ _ _ _
theorem Apt_str {w : World} {base : Nat} {ok : Nat → Prop} {v : Value} {ls : List ByteArray} (h : Kd.R Kd.string 9 w base ok v ls) : Apt w base [strR v ls] := by
 refine ⟨by simp only [OkS, and_true]; exact strR_of h, ?_⟩
 simp only [blS, List.append_nil, strR_bl]
 cases v.ownBlock <;> simp
theorem str_slice {w : World} {base : Nat} {v : Value} {ls : List ByteArray} (h : Apt w base [strR v ls]) : ∃ A c, v = .slice A ls.length c := by
 have := h.1
 simp only [OkS, and_true, strR, HT.Ok] at this
 exact own_slice this.1
theorem row_slice {W : World} {e sz n base : Nat} {v : Value} {cs : List HT} (h : Apt W base [.row e sz n v cs]) : ∃ A c, v = .slice A n c := own_slice (row_cells h)
theorem Apt_one {w : World} {base : Nat} {a b : List HT} {x : HT} (h : Apt w base (a ++ [x] ++ b)) : Apt w base [x] := (Apt_parts (Apt_parts h).1).2.1
theorem TyE_open {w : World} {base : Nat} {x : S32} {hs : List HT} (h : TyE x hs) (ha : Apt w base hs) : ∃ P1 q1 P2 q2 cs, hs = [.lf (.int .i64 x.f0), strR (.slice P1 x.f1.length q1) x.f1, .row 32 3 x.f2.length (.slice P2 x.f2.length q2) cs] ∧ TyES x.f2 cs := by
 obtain ⟨v1, v2, cs, rfl, hc⟩ := (TyE_eq x hs).1 h
 obtain ⟨P1, q1, rfl⟩ := str_slice (Apt_one (a := [.lf (.int .i64 x.f0)]) (b := [.row 32 3 x.f2.length v2 cs]) ha)
 obtain ⟨P2, q2, rfl⟩ := row_slice (Apt_one (a := [.lf (.int .i64 x.f0), strR (.slice P1 x.f1.length q1) x.f1]) (b := []) ha)
 exact ⟨P1, q1, P2, q2, cs, rfl, hc⟩
theorem TeE_open {w : World} {base : Nat} {x : S35} {hs : List HT} (h : TeE x hs) (ha : Apt w base hs) : ∃ P1 q1 P2 q2 P3 q3 P4 q4 us cs, hs = [.lf (.int .i64 x.f0), .lf (.string x.f1), .lf (.int .i64 x.f2), .lf (.int .i64 x.f3.f0), strR (.slice P1 x.f3.f1.length q1) x.f3.f1, .row 32 3 x.f3.f2.length (.slice P2 x.f3.f2.length q2) us, strR (.slice P3 x.f4.length q3) x.f4, .row 35 8 x.f5.length (.slice P4 x.f5.length q4) cs] ∧ TyES x.f3.f2 us ∧ TeES x.f5 cs := by
 obtain ⟨ts, v1, v2, cs, rfl, ht, hc⟩ := (TeE_eq x hs).1 h
 obtain ⟨P1, q1, P2, q2, us, rfl, hu⟩ := TyE_open ht (Apt_parts (a := [.lf (.int .i64 x.f0), .lf (.string x.f1), .lf (.int .i64 x.f2)]) (Apt_parts ha).1).2.1
 obtain ⟨P3, q3, rfl⟩ := str_slice (Apt_one (a := [.lf (.int .i64 x.f0), .lf (.string x.f1), .lf (.int .i64 x.f2), .lf (.int .i64 x.f3.f0), strR (.slice P1 x.f3.f1.length q1) x.f3.f1, .row 32 3 x.f3.f2.length (.slice P2 x.f3.f2.length q2) us]) (b := [.row 35 8 x.f5.length v2 cs]) ha)
 obtain ⟨P4, q4, rfl⟩ := row_slice (Apt_one (a := [.lf (.int .i64 x.f0), .lf (.string x.f1), .lf (.int .i64 x.f2), .lf (.int .i64 x.f3.f0), strR (.slice P1 x.f3.f1.length q1) x.f3.f1, .row 32 3 x.f3.f2.length (.slice P2 x.f3.f2.length q2) us, strR (.slice P3 x.f4.length q3) x.f4]) (b := []) ha)
 exact ⟨P1, q1, P2, q2, P3, q3, P4, q4, us, cs, rfl, hu, hc⟩
theorem Apt_lf {w : World} {base : Nat} {l : List HT} (v : Value) (hv : v.oneCell' = true) (h : Apt w base l) : Apt w base (.lf v :: l) := by
 refine ⟨?_, ?_⟩
 ·simp only [OkS, HT.Ok]
  exact ⟨hv, h.1⟩
 ·simp only [blS, HT.bl, List.nil_append]
  exact h.2
theorem blS_lf (v : Value) (l : List HT) : blS (.lf v :: l) = blS l := by simp [blS, HT.bl]
theorem take_one {α : Type} (xs : List α) (z : α) (i : Nat) (h : i < xs.length) : xs.take (i + 1) = xs.take i ++ [xs.getD i z] := by
 rw [List.take_succ_eq_append_getElem h]
 simp [List.getD_eq_getElem?_getD, h]
theorem size_sets (w : World) (g o : Nat) (vs : List Value) : (w.setCells g o vs).heap.size = w.heap.size := (setCells_same g vs o w).2.2.2
theorem Dapp {a c : List HT} {g : Nat} (h1 : ∀ b ∈ blS a, b ≠ g) (h2 : ∀ b ∈ blS c, b ≠ g) : ∀ b ∈ blS (a ++ c), b ≠ g := fun b hb => by
 rw [blS_append] at hb
 rcases List.mem_append.1 hb with h | h
 ·exact h1 b h
 ·exact h2 b h
theorem box_sets_to {w : World} {g : Nat} {t : TypeId} {cs cs' : Array Value} {o : Nat} {vs : List Value} (h : w.heap[g]? = some (.cells cs t (0, 0))) (he : putA cs o vs = cs') : (w.setCells g o vs).heap[g]? = some (.cells cs' t (0, 0)) := he ▸ box_sets vs o h
theorem TeE_C {w : World} {base : Nat} {y : S35} {P1 P2 P3 P4 : Option Addr} {q1 q2 q3 q4 : Nat} {us cs : List HT}
  (h : Apt w base [.lf (.int .i64 y.f0), .lf (.string y.f1), .lf (.int .i64 y.f2), .lf (.int .i64 y.f3.f0), strR (.slice P1 y.f3.f1.length q1) y.f3.f1, .row 32 3 y.f3.f2.length (.slice P2 y.f3.f2.length q2) us, strR (.slice P3 y.f4.length q3) y.f4, .row 35 8 y.f5.length (.slice P4 y.f5.length q4) cs])
  (hu : TyES y.f3.f2 us) (hc : TeES y.f5 cs) :
  (Kd.C Kd.string w P1 y.f3.f1.length y.f3.f1 ∧ y.f3.f1.length ≤ q1) ∧ (Kd.C k32 w P2 y.f3.f2.length y.f3.f2 ∧ y.f3.f2.length ≤ q2) ∧ (Kd.C Kd.string w P3 y.f4.length y.f4 ∧ y.f4.length ≤ q3) ∧ (Kd.C k35 w P4 y.f5.length y.f5 ∧ y.f5.length ≤ q4) := by
 have h1 := h.1
 simp only [OkS, HT.Ok] at h1
 obtain ⟨_, _, _, _, p1, p2, p3, p4, _⟩ := h1
 obtain ⟨A1, c1, e1, l1, r1⟩ := Kd.R_reads (R_of_strR p1)
 obtain ⟨A2, c2, e2, l2, r2⟩ := TyES_C hu (v := .slice P2 y.f3.f2.length q2) (base := base) (by simp only [HT.Ok]; exact p2)
 obtain ⟨A3, c3, e3, l3, r3⟩ := Kd.R_reads (R_of_strR p3)
 obtain ⟨A4, c4, e4, l4, r4⟩ := TeES_C hc (v := .slice P4 y.f5.length q4) (base := base) (by simp only [HT.Ok]; exact p4)
 cases e1
 cases e2
 cases e3
 cases e4
 exact ⟨⟨r1, l1⟩, ⟨r2, l2⟩, ⟨r3, l3⟩, ⟨r4, l4⟩⟩
theorem R_from {α : Type} {d : Kd α} {e : Nat} {w : World} {base n n0 : Nat} {v : Value} {xs : List α} (h : d.R e w base (fun _ => True) v xs) (hn : n ≤ base) (h0 : n0 ≤ base) : d.R e w n0 (fun k => n ≤ k) v xs := by
 have h2 := Kd.R_bound h
 refine Kd.R_lower (Kd.R_mono h2 (fun k hk => Nat.le_trans hn hk.2.1)) h0
theorem strR_own {v : Value} {ls : List ByteArray} {b : Nat} (h : v.ownBlock = some b) : b ∈ blS [strR v ls] := row_own h
theorem strR_in {v : Value} {ls : List ByteArray} {b : Nat} (h : b ∈ blS [strR v ls]) : v.ownBlock = some b := by
 simp only [blS, List.append_nil, strR_bl] at h
 simpa using h
theorem Dgrow {W : World} {v v1 : Value} {ls ls' : List ByteArray} {g : Nat} (hD : ∀ b ∈ blS [strR v ls], b ≠ g) (hg : g < W.heap.size) (hat : v1.ownBlock = v.ownBlock ∨ ∃ b, v1.ownBlock = some b ∧ W.heap.size ≤ b) : ∀ b ∈ blS [strR v1 ls'], b ≠ g := by
 intro b hb
 have h := strR_in hb
 rcases hat with e | ⟨c, e, hc⟩
 ·rw [e] at h
  exact hD b (strR_own h)
 ·rw [e] at h
  obtain rfl := Option.some.inj h
  omega
theorem Apt_both {w : World} {base : Nat} {a b : List HT} (ha : Apt w base a) (hb : Apt w base b) (hE : ∀ x ∈ blS a, ∀ y ∈ blS b, x ≠ y) : Apt w base (a ++ b) := by
 refine ⟨(OkS_append a b).2 ⟨ha.1, hb.1⟩, ?_⟩
 rw [blS_append]
 exact List.nodup_append.2 ⟨ha.2, hb.2, fun x hx y hy => hE x hx y hy⟩
theorem bfw {w w2 : World} {g k o : Nat} {t : TypeId} {cs : Array Value} {vs : List Value} (hw : w2 = w.setCells g o vs) (h : w.heap[k]? = some (.cells cs t (0, 0))) (hne : k ≠ g) : w2.heap[k]? = some (.cells cs t (0, 0)) := by rw [hw]; exact box_far_sets h hne o vs
theorem apw {w w2 : World} {g o base : Nat} {vs : List Value} {l : List HT} (hw : w2 = w.setCells g o vs) (h : Apt w base l) (hne : ∀ b ∈ blS l, b ≠ g) : Apt w2 base l := by rw [hw]; exact Apt_sets h hne o vs
theorem siw {w w2 : World} {g o n : Nat} {vs : List Value} (hw : w2 = w.setCells g o vs) (h : n ≤ w.heap.size) : n ≤ w2.heap.size := by rw [hw, size_sets]; exact h
theorem bew {w w0 w2 : World} {g o B : Nat} {vs : List Value} (hw : w2 = w.setCells g o vs) (h : Below B w0 w) (hg : B ≤ g) : Below B w0 w2 := by rw [hw]; exact below_sets (w := w) vs o h hg
theorem bsw {w w2 : World} {g o : Nat} {t : TypeId} {cs cs' : Array Value} {vs : List Value} (hw : w2 = w.setCells g o vs) (h : w.heap[g]? = some (.cells cs t (0, 0))) (he : putA cs o vs = cs') : w2.heap[g]? = some (.cells cs' t (0, 0)) := by rw [hw]; exact box_sets_to h he
theorem sA {α : Type} {l : List α} {i : Nat} {a : α} : l.toArray.setIfInBounds i a = (l.set i a).toArray := List.setIfInBounds_toArray ..
theorem sB {α : Type} {x b : α} {xs : List α} : (x :: xs).set 0 b = b :: xs := List.set_cons_zero ..
theorem sC {α : Type} {n : Nat} {x b : α} {xs : List α} : (x :: xs).set (n + 1) b = x :: xs.set n b := List.set_cons_succ ..
theorem blk8 {w : World} {g : Nat} {t : TypeId} {a b c d e f h i : Value} (hb : w.heap[g]? = some (.cells #[a, b, c, d, e, f, h, i] t (0, 0))) : w.cell? ⟨g, 0, none⟩ = some a ∧ w.cell? ⟨g, 1, none⟩ = some b ∧ w.cell? ⟨g, 2, none⟩ = some c ∧ w.cell? ⟨g, 3, none⟩ = some d ∧ w.cell? ⟨g, 4, none⟩ = some e ∧ w.cell? ⟨g, 5, none⟩ = some f ∧ w.cell? ⟨g, 6, none⟩ = some h ∧ w.cell? ⟨g, 7, none⟩ = some i :=
 ⟨(blk_cell hb 0).trans rfl, (blk_cell hb 1).trans rfl, (blk_cell hb 2).trans rfl, (blk_cell hb 3).trans rfl, (blk_cell hb 4).trans rfl, (blk_cell hb 5).trans rfl, (blk_cell hb 6).trans rfl, (blk_cell hb 7).trans rfl⟩
theorem blk3 {w : World} {g : Nat} {t : TypeId} {a b c : Value} (hb : w.heap[g]? = some (.cells #[a, b, c] t (0, 0))) : w.cell? ⟨g, 0, none⟩ = some a ∧ w.cell? ⟨g, 1, none⟩ = some b ∧ w.cell? ⟨g, 2, none⟩ = some c := ⟨(blk_cell hb 0).trans rfl, (blk_cell hb 1).trans rfl, (blk_cell hb 2).trans rfl⟩
theorem blf8 {w : World} {g : Nat} {t : TypeId} {cs : Array Value} (hb : w.heap[g]? = some (.cells cs t (0, 0))) : w.frozen? ⟨g, 0, none⟩ = false ∧ w.frozen? ⟨g, 1, none⟩ = false ∧ w.frozen? ⟨g, 2, none⟩ = false ∧ w.frozen? ⟨g, 3, none⟩ = false ∧ w.frozen? ⟨g, 4, none⟩ = false ∧ w.frozen? ⟨g, 5, none⟩ = false ∧ w.frozen? ⟨g, 6, none⟩ = false ∧ w.frozen? ⟨g, 7, none⟩ = false :=
 ⟨blk_frozen hb 0, blk_frozen hb 1, blk_frozen hb 2, blk_frozen hb 3, blk_frozen hb 4, blk_frozen hb 5, blk_frozen hb 6, blk_frozen hb 7⟩
theorem nwN {W : World} {k g : Nat} {o : Obj} (hg : g = W.heap.size) (h : W.heap[k]? = some o) : k ≠ g := by rw [hg]; exact Nat.ne_of_lt (blk_lt h)
theorem nwD {W : World} {g base : Nat} {l : List HT} (hg : g = W.heap.size) (h : Apt W base l) : ∀ b ∈ blS l, b ≠ g := by rw [hg]; exact fun b hb => Nat.ne_of_lt (Apt_lt h b hb)
theorem nwG {W w0 : World} {g : Nat} {B : Nat} (hg : g = W.heap.size) (h : Below B w0 W) : w0.heap.size ≤ g := by rw [hg]; exact h.size
theorem limB {W : World} {k n : Nat} {o : Obj} (hn : n = W.heap.size) (h : W.heap[k]? = some o) : k < n := by rw [hn]; exact blk_lt h
theorem limA {W : World} {n base : Nat} {l : List HT} (hn : n = W.heap.size) (h : Apt W base l) : ∀ b ∈ blS l, b < n := by rw [hn]; exact Apt_lt h
theorem limW {W w0 : World} {n B : Nat} (hn : n = W.heap.size) (h : Below B w0 W) : w0.heap.size ≤ n := by rw [hn]; exact h.size
theorem k_ {p : Prop} (h : p) : Aside0 p := ⟨h⟩
theorem sP : (∀ (l : List Value) (i : Nat) (a : Value), l.toArray.setIfInBounds i a = (l.set i a).toArray) ∧ (∀ (x b : Value) (xs : List Value), (x :: xs).set 0 b = b :: xs) ∧ (∀ (n : Nat) (x b : Value) (xs : List Value), (x :: xs).set (n + 1) b = x :: xs.set n b) ∧ (∀ n : Int, IntKind.i64.wrap n = wrap64 n) ∧ (∀ n : Int, IntKind.i32.wrap n = wrap32 n) := ⟨fun _ _ _ => sA, fun _ _ _ => sB, fun _ _ _ _ => sC, i64_w, i32_w⟩

end Go.Proofs.YtpckkjeapfdilaaDoor.Px
end
