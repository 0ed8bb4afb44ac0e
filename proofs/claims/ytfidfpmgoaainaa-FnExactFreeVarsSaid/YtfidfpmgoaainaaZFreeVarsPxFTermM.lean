/- The family Term of mirrored types: the weight of a value, its copy, and what the laws' own helpers come to. No condition. -/
import Derived.Test.YtfidfpmgoaainaaZFreeVarsPx1M
import Derived.Test.YtfidfpmgoaainaaZFreeVarsPx5
import Derived.Test.YtfidfpmgoaainaaZFreeVarsPx8M
import Derived.Test.YtfidfpmgoaainaaZFreeVarsPx6M
import Derived.Test.YtfidfpmgoaainaaZFreeVarsWLastM
import Derived.StringKeys
import Derived.Test.YtfidfpmgoaainaaZFreeVarsPx3M
import Derived.Sort.Walk0
section
namespace Go.Proofs.Ytfidfpmgoaainaa.Px
open Go.RowKit Go.Proofs.YtfidfpmgoaainaaW.PrintWords Go.Proofs.Ytfidfpmgoaainaa.Pl
set_option linter.unusedVariables false
set_option linter.unusedSimpArgs false
mutual
def wtTerm : S28 → Nat
  | ⟨x0, x1, x2, x3, x4, x5⟩ => x1.size + wtType x3 + wts x4 + (x5.length + wtTermS x5)
def wtTermS : List S28 → Nat
  | [] => 0
  | x :: r => wtTerm x + wtTermS r
end
mutual
def cvTerm : S28 → S36
  | ⟨x0, x1, x2, x3, x4, x5⟩ => ⟨x0, x1, x2, (cvType x3), x4, (cvTermS x5)⟩
def cvTermS : List S28 → List S36
  | [] => []
  | x :: r => cvTerm x :: cvTermS r
end
theorem wtTermS_sum (xs : List S28) : wtTermS xs = (xs.map wtTerm).sum := by
  induction xs with
  | nil => rfl
  | cons x r ih => simp [wtTermS, ih]
theorem cvTermS_map (xs : List S28) : cvTermS xs = xs.map cvTerm := by
  induction xs with
  | nil => rfl
  | cons x r ih => simp [cvTermS, ih]
theorem wtTerm_eq (x : S28) : wtTerm x = x.f1.size + wtType x.f3 + wts x.f4 + (x.f5.length + wtTermS x.f5) := by cases x; simp only [wtTerm]
theorem cvTerm_eq (x : S28) : cvTerm x = ⟨x.f0, x.f1, x.f2, (cvType x.f3), x.f4, (cvTermS x.f5)⟩ := by cases x; simp only [cvTerm]
theorem indTermL {P : S28 → Prop} (h : ∀ x, (∀ y ∈ x.f5, P y) → P x) : ∀ x, P x
  | ⟨x0, x1, x2, x3, x4, x5⟩ => h _ (fun y hy => indTermL h y)
termination_by x => SizeOf.sizeOf x
decreasing_by
  have := List.sizeOf_lt_of_mem hy
  simp at this ⊢
  omega
theorem indTermI {P : S36 → Prop} (h : ∀ x, (∀ y ∈ x.f5, P y) → P x) : ∀ x, P x
  | ⟨x0, x1, x2, x3, x4, x5⟩ => h _ (fun y hy => indTermI h y)
termination_by x => SizeOf.sizeOf x
decreasing_by
  have := List.sizeOf_lt_of_mem hy
  simp at this ⊢
  omega
inductive SmTerm : S36 → Prop
  | mk {x : S36} : ((Lit.int .i64 x.f0).wf = true) → (x.f1.size ≤ 1048576) → ((Lit.int .i64 x.f2).wf = true) → (SmType x.f3) → ((x.f4.length ≤ 1048576 ∧ ∀ y ∈ x.f4, y.size ≤ 1048576)) → x.f5.length ≤ 1048576 → (∀ y ∈ x.f5, SmTerm y) → SmTerm x
theorem SmTerm.p0 {x : S36} (h : SmTerm x) : (Lit.int .i64 x.f0).wf = true := by cases h; assumption
theorem SmTerm.p1 {x : S36} (h : SmTerm x) : x.f1.size ≤ 1048576 := by cases h; assumption
theorem SmTerm.p2 {x : S36} (h : SmTerm x) : (Lit.int .i64 x.f2).wf = true := by cases h; assumption
theorem SmTerm.p3 {x : S36} (h : SmTerm x) : SmType x.f3 := by cases h; assumption
theorem SmTerm.p4 {x : S36} (h : SmTerm x) : (x.f4.length ≤ 1048576 ∧ ∀ y ∈ x.f4, y.size ≤ 1048576) := by cases h; assumption
theorem SmTerm.p5 {x : S36} (h : SmTerm x) : x.f5.length ≤ 1048576 ∧ ∀ y ∈ x.f5, SmTerm y := by cases h; constructor <;> assumption
theorem etaTerm (x : S36) : (⟨x.f0, x.f1, x.f2, (⟨x.f3.f0, x.f3.f1, x.f3.f2⟩ : S33), x.f4, x.f5⟩ : S36) = x := by obtain ⟨_, _, _, ⟨_, _, _⟩, _, _⟩ := x; rfl
mutual
def ndTerm : S36 → Nat
  | ⟨x0, x1, x2, x3, x4, x5⟩ => 1 + ndTermS x5
def ndTermS : List S36 → Nat
  | [] => 0
  | x :: r => ndTerm x + ndTermS r
end
theorem ndTermS_sum (xs : List S36) : ndTermS xs = (xs.map ndTerm).sum := by
  induction xs with
  | nil => rfl
  | cons x r ih => simp [ndTermS, ih]
theorem ndTerm_eq (x : S36) : ndTerm x = 1 + (x.f5.map ndTerm).sum := by cases x; simp only [ndTerm, ndTermS_sum]
theorem ndTerm_cv : ∀ x : S28, ndTerm (cvTerm x) ≤ wtTerm x + 1 := by
  refine indTermL fun x ih => ?_
  rw [ndTerm_eq, cvTerm_eq, wtTerm_eq]
  have hL : ∀ l : List S28, (∀ y ∈ l, ndTerm (cvTerm y) ≤ wtTerm y + 1) → ((l.map cvTerm).map ndTerm).sum ≤ l.length + (l.map wtTerm).sum := by
    intro l
    induction l with
    | nil => intro _; simp
    | cons y r ih2 =>
      intro h
      have h1 := h y (List.mem_cons_self ..)
      have h2 := ih2 (fun z hz => h z (List.mem_cons_of_mem _ hz))
      simp only [List.map_cons, List.sum_cons, List.length_cons] at h2 ⊢
      omega
  have := hL x.f5 ih
  (try dsimp only)
  rw [cvTermS_map, wtTermS_sum]
  omega
theorem smTerm_of : ∀ x : S28, W28 x → wtTerm x ≤ 1048576 → SmTerm (cvTerm x) := by
  refine indTermL fun x ih hw hw2 => ?_
  have hb := hw2
  rw [wtTerm_eq] at hb
  rw [cvTerm_eq]
  exact SmTerm.mk (hw.p0) (by (try dsimp only); omega) (hw.p2) (smType_of _ hw.p3 (by omega)) (⟨by (try dsimp only); unfold wts at hb; omega, fun y hy => by (try dsimp only at hy); have := sum_le_of_mem ByteArray.size hy; unfold wts szs at hb; omega⟩) (by (try dsimp only); rw [cvTermS_map, List.length_map]; omega) (fun z hz => by
      (try dsimp only at hz)
      rw [cvTermS_map] at hz
      obtain ⟨y, hy, rfl⟩ := List.mem_map.1 hz
      exact ih y hy (hw.p5.2 y hy) (by have := sum_le_of_mem wtTerm hy; rw [← wtTermS_sum] at this; omega))
theorem szTermS_of (xs : List S28) (hx : xs.length ≤ maxLen) (h : ∀ y ∈ xs, ∀ left : Int, 0 ≤ left → left ≤ 1048576 → Ev (fun k => laws_szTerm.f k (y.f0) (y.f1) (y.f2) (y.f3.f0) (y.f3.f1) (y.f3.f2) (y.f4) (y.f5) left) (cut (wtTerm y) left)) (left : Int) (h0 : 0 ≤ left) (hl : left ≤ 1048576) : Ev (fun k => laws_szTermS.f k xs left) (cut (xs.length + wtTermS xs) left) := by
  refine Ev.up ?_
  simp only [laws_szTermS.f]
  have hs := cut_sub (n := xs.length) h0 hl hx
  by_cases hc : cut xs.length left < 0
  · exact Ev.pos (hs.1.2 hc) (Ev.const (cut_add' hc).symm)
  · refine Ev.neg (fun h => hc (hs.1.1 h)) ?_
    rw [hs.2 (by omega)]
    have hl2 := cut_le (n := xs.length) h0
    have hw := sz_loop xs.length (fun k i left => laws_szTerm.f k ((rd_T28 xs (i : Int)).f0) ((rd_T28 xs (i : Int)).f1) ((rd_T28 xs (i : Int)).f2) ((rd_T28 xs (i : Int)).f3.f0) ((rd_T28 xs (i : Int)).f3.f1) ((rd_T28 xs (i : Int)).f3.f2) ((rd_T28 xs (i : Int)).f4) ((rd_T28 xs (i : Int)).f5) left) (fun k left i => laws_szTermS.l0 k xs left (i : Int)) (fun i => wtTerm (xs.getD i z28)) (fun k left i hi => by
      simp only [laws_szTermS.l0]
      rw [if_pos (by omega), if_pos (by omega), w1 hi hx]) (fun k left => by simp only [laws_szTermS.l0]; rw [if_neg (by omega)]) (fun i left hi h0 hl => h _ (mem_getD xs z28 i hi) left h0 hl) xs.length 0 _ (by omega) (show 0 ≤ cut xs.length left by omega) (by omega)
    refine Ev.eq hw ?_
    rw [cut_add (by omega), sumF_list wtTerm z28 xs xs.length 0 (by omega), wtTermS_sum]
    rfl
theorem szTerm_ev : ∀ x : S28, W28 x → ∀ left : Int, 0 ≤ left → left ≤ 1048576 → Ev (fun k => laws_szTerm.f k (x.f0) (x.f1) (x.f2) (x.f3.f0) (x.f3.f1) (x.f3.f2) (x.f4) (x.f5) left) (cut (wtTerm x) left) := by
  refine indTermL fun x ih hw left h0 hl => ?_
  refine Ev.up ?_
  simp only [laws_szTerm.f]
  rw [wtTerm_eq]
  have hb0 : (0 : Int) ≤ left ∧ left ≤ 1048576 := ⟨h0, hl⟩
  have hs0 := cut_sub (n := x.f1.size) hb0.1 hb0.2 (hw.p1)
  by_cases hc0 : cut (x.f1.size) left < 0
  · refine Ev.pos (hs0.1.2 hc0) (Ev.const ?_)
    have hn : cut (x.f1.size) left < 0 := hc0
    have hn : cut (x.f1.size + wtType x.f3) left < 0 := by rw [cut_add' hn]; omega
    have hn : cut (x.f1.size + wtType x.f3 + wts x.f4) left < 0 := by rw [cut_add' hn]; omega
    have hn : cut (x.f1.size + wtType x.f3 + wts x.f4 + (x.f5.length + wtTermS x.f5)) left < 0 := by rw [cut_add' hn]; omega
    have hv := cut_neg.1 hn; unfold cut; rw [if_neg hv]
  refine Ev.neg (fun h => hc0 (hs0.1.1 h)) ?_
  rw [hs0.2 (by omega)]
  have hb1 : (0 : Int) ≤ cut (x.f1.size) left ∧ cut (x.f1.size) left ≤ 1048576 := ⟨by omega, by have := cut_le (n := x.f1.size) h0; omega⟩
  refine Ev.bind (szType_ev x.f3 hw.p3 _ hb1.1 hb1.2) ?_
  by_cases hc1 : cut (wtType x.f3) (cut (x.f1.size) left) < 0
  · refine Ev.pos hc1 (Ev.const ?_)
    have hn : cut (x.f1.size + wtType x.f3) left < 0 := by rw [← cut_add (by omega)]; exact hc1
    have hn : cut (x.f1.size + wtType x.f3 + wts x.f4) left < 0 := by rw [cut_add' hn]; omega
    have hn : cut (x.f1.size + wtType x.f3 + wts x.f4 + (x.f5.length + wtTermS x.f5)) left < 0 := by rw [cut_add' hn]; omega
    have hv := cut_neg.1 hn; unfold cut; rw [if_neg hv]
  refine Ev.neg hc1 ?_
  rw [cut_add (by omega)] at hc1 ⊢
  have hb2 : (0 : Int) ≤ cut (x.f1.size + wtType x.f3) left ∧ cut (x.f1.size + wtType x.f3) left ≤ 1048576 := ⟨by omega, by have := cut_le (n := x.f1.size + wtType x.f3) h0; omega⟩
  refine Ev.bind (szStringS_ev x.f4 hw.p4 _ hb2.1 hb2.2) ?_
  by_cases hc2 : cut (wts x.f4) (cut (x.f1.size + wtType x.f3) left) < 0
  · refine Ev.pos hc2 (Ev.const ?_)
    have hn : cut (x.f1.size + wtType x.f3 + wts x.f4) left < 0 := by rw [← cut_add (by omega)]; exact hc2
    have hn : cut (x.f1.size + wtType x.f3 + wts x.f4 + (x.f5.length + wtTermS x.f5)) left < 0 := by rw [cut_add' hn]; omega
    have hv := cut_neg.1 hn; unfold cut; rw [if_neg hv]
  refine Ev.neg hc2 ?_
  rw [cut_add (by omega)] at hc2 ⊢
  have hb3 : (0 : Int) ≤ cut (x.f1.size + wtType x.f3 + wts x.f4) left ∧ cut (x.f1.size + wtType x.f3 + wts x.f4) left ≤ 1048576 := ⟨by omega, by have := cut_le (n := x.f1.size + wtType x.f3 + wts x.f4) h0; omega⟩
  refine Ev.bind (szTermS_of x.f5 hw.p5.1 (fun y hy => ih y hy (hw.p5.2 y hy)) _ hb3.1 hb3.2) ?_
  by_cases hc3 : cut ((x.f5.length + wtTermS x.f5)) (cut (x.f1.size + wtType x.f3 + wts x.f4) left) < 0
  · refine Ev.pos hc3 (Ev.const ?_)
    have hn : cut (x.f1.size + wtType x.f3 + wts x.f4 + (x.f5.length + wtTermS x.f5)) left < 0 := by rw [← cut_add (by omega)]; exact hc3
    have hv := cut_neg.1 hn; unfold cut; rw [if_neg hv]
  refine Ev.neg hc3 ?_
  rw [cut_add (by omega)] at hc3 ⊢
  have hb4 : (0 : Int) ≤ cut (x.f1.size + wtType x.f3 + wts x.f4 + (x.f5.length + wtTermS x.f5)) left ∧ cut (x.f1.size + wtType x.f3 + wts x.f4 + (x.f5.length + wtTermS x.f5)) left ≤ 1048576 := ⟨by omega, by have := cut_le (n := x.f1.size + wtType x.f3 + wts x.f4 + (x.f5.length + wtTermS x.f5)) h0; omega⟩
  exact Ev.const rfl
theorem toTermS_of (xs : List S28) (hx : xs.length ≤ 1048576) (h : ∀ y ∈ xs, Ev (fun k => laws_toTerm.f k (y.f0) (y.f1) (y.f2) (y.f3.f0) (y.f3.f1) (y.f3.f2) (y.f4) (y.f5)) ((cvTerm y).f0, (cvTerm y).f1, (cvTerm y).f2, (cvTerm y).f3.f0, (cvTerm y).f3.f1, (cvTerm y).f3.f2, (cvTerm y).f4, (cvTerm y).f5)) : Ev (fun k => laws_toTermS.f k xs) (cvTermS xs) := by
  refine Ev.up ?_
  simp only [laws_toTermS.f]
  refine Ev.pos (by omega) (Ev.pos (by omega) ?_)
  have hw := to_loop xs.length (fun k i => (laws_toTerm.f k ((rd_T28 xs (i : Int)).f0) ((rd_T28 xs (i : Int)).f1) ((rd_T28 xs (i : Int)).f2) ((rd_T28 xs (i : Int)).f3.f0) ((rd_T28 xs (i : Int)).f3.f1) ((rd_T28 xs (i : Int)).f3.f2) ((rd_T28 xs (i : Int)).f4) ((rd_T28 xs (i : Int)).f5)).map fun t => (⟨t.1, t.2.1, t.2.2.1, (⟨t.2.2.2.1, t.2.2.2.2.1, t.2.2.2.2.2.1⟩ : S33), t.2.2.2.2.2.2.1, t.2.2.2.2.2.2.2⟩ : S36)) (fun k out i => laws_toTermS.l0 k xs out (i : Int)) (fun i => cvTerm (xs.getD i z28)) (fun k out i hi hl => by
    simp only [laws_toTermS.l0]
    rw [if_pos (by omega), if_pos (by omega)]
    rcases laws_toTerm.f k ((rd_T28 xs (i : Int)).f0) ((rd_T28 xs (i : Int)).f1) ((rd_T28 xs (i : Int)).f2) ((rd_T28 xs (i : Int)).f3.f0) ((rd_T28 xs (i : Int)).f3.f1) ((rd_T28 xs (i : Int)).f3.f2) ((rd_T28 xs (i : Int)).f4) ((rd_T28 xs (i : Int)).f5) with _ | t
    · rfl
    · simp only [Option.map_some, Option.bind_some]
      rw [if_pos (by omega), w1' hi hx]
      rfl) (fun k out => by simp only [laws_toTermS.l0]; rw [if_neg (by omega)]) (fun i hi => Ev.eq (Ev.map (fun t => (⟨t.1, t.2.1, t.2.2.1, (⟨t.2.2.2.1, t.2.2.2.2.1, t.2.2.2.2.2.1⟩ : S33), t.2.2.2.2.2.2.1, t.2.2.2.2.2.2.2⟩ : S36)) (h _ (mem_getD xs z28 i hi))) (etaTerm _)) xs.length 0 (List.replicate ((xs.length : Int)).toNat z36) (by omega) (by simp)
  refine Ev.eq hw ?_
  rw [List.take_zero, List.nil_append, range_map_getElem cvTerm z28 xs, cvTermS_map]
theorem toTerm_ev : ∀ x : S28, wtTerm x ≤ 1048576 → Ev (fun k => laws_toTerm.f k (x.f0) (x.f1) (x.f2) (x.f3.f0) (x.f3.f1) (x.f3.f2) (x.f4) (x.f5)) ((cvTerm x).f0, (cvTerm x).f1, (cvTerm x).f2, (cvTerm x).f3.f0, (cvTerm x).f3.f1, (cvTerm x).f3.f2, (cvTerm x).f4, (cvTerm x).f5) := by
  refine indTermL fun x ih hw2 => ?_
  refine Ev.up ?_
  simp only [laws_toTerm.f]
  have hb := hw2
  rw [wtTerm_eq] at hb
  refine Ev.bind (toType_ev x.f3 (by omega)) ?_
  refine Ev.bind (toStringS_ev x.f4 (by unfold wts at hb; omega)) ?_
  refine Ev.bind (toTermS_of x.f5 (by omega) (fun y hy => ih y hy (by have := sum_le_of_mem wtTerm hy; rw [← wtTermS_sum] at this; omega))) ?_
  exact Ev.const (by rw [cvTerm_eq])
theorem eqTermS_of (xs : List S36) (hx : xs.length ≤ 1048576) (h : ∀ y ∈ xs, Ev (fun k => laws_eqTerm.f k (y.f0) (y.f1) (y.f2) (y.f3.f0) (y.f3.f1) (y.f3.f2) (y.f4) (y.f5) (y.f0) (y.f1) (y.f2) (y.f3.f0) (y.f3.f1) (y.f3.f2) (y.f4) (y.f5)) true) : Ev (fun k => laws_eqTermS.f k xs xs) true := by
  refine Ev.up ?_
  simp only [laws_eqTermS.f]
  refine Ev.pos (by simp) ?_
  exact eq_loop xs.length (fun k i => laws_eqTerm.f k ((rd_T36 xs (i : Int)).f0) ((rd_T36 xs (i : Int)).f1) ((rd_T36 xs (i : Int)).f2) ((rd_T36 xs (i : Int)).f3.f0) ((rd_T36 xs (i : Int)).f3.f1) ((rd_T36 xs (i : Int)).f3.f2) ((rd_T36 xs (i : Int)).f4) ((rd_T36 xs (i : Int)).f5) ((rd_T36 xs (i : Int)).f0) ((rd_T36 xs (i : Int)).f1) ((rd_T36 xs (i : Int)).f2) ((rd_T36 xs (i : Int)).f3.f0) ((rd_T36 xs (i : Int)).f3.f1) ((rd_T36 xs (i : Int)).f3.f2) ((rd_T36 xs (i : Int)).f4) ((rd_T36 xs (i : Int)).f5)) (fun k i => laws_eqTermS.l0 k xs xs (i : Int)) (fun k i hi => by
    simp only [laws_eqTermS.l0]
    rw [if_pos (by omega), if_pos (by omega), if_pos (by omega), w1' hi hx]) (fun k => by simp only [laws_eqTermS.l0]; rw [if_neg (by omega)]) (fun i hi => h _ (mem_getD xs z36 i hi)) xs.length 0 (by omega)
theorem eqTerm_ev : ∀ x : S36, SmTerm x → Ev (fun k => laws_eqTerm.f k (x.f0) (x.f1) (x.f2) (x.f3.f0) (x.f3.f1) (x.f3.f2) (x.f4) (x.f5) (x.f0) (x.f1) (x.f2) (x.f3.f0) (x.f3.f1) (x.f3.f2) (x.f4) (x.f5)) true := by
  refine indTermI fun x ih hs => ?_
  refine Ev.up ?_
  simp only [laws_eqTerm.f]
  refine Ev.pos (by simp) ?_
  refine Ev.pos (by simp) ?_
  refine Ev.pos (by simp) ?_
  refine Ev.bind (eqType_ev x.f3 hs.p3) (Ev.pos (by simp) ?_)
  refine Ev.bind (eqStringS_ev x.f4 hs.p4.1) (Ev.pos (by simp) ?_)
  refine Ev.bind (eqTermS_of x.f5 hs.p5.1 (fun y hy => ih y hy (hs.p5.2 y hy))) (Ev.pos (by simp) ?_)
  exact Ev.now _
end Go.Proofs.Ytfidfpmgoaainaa.Px
end
section
namespace Go.Proofs.Ytfidfpmgoaainaa.Sm
open Go.RowKit Go.Proofs.YtfidfpmgoaainaaW.PrintWords Go.Proofs.Ytfidfpmgoaainaa.Ext
set_option linter.unusedVariables false
/-- How the elements of a type stand in memory, and how they read. -/
structure El (P : Program) (e : TypeId) (α : Type) where
  enc : α → Value
  lit : α → Lit
  ok : α → Prop
  zero : α
  into : ∀ x, ok x → plainElem (H := Unit) P e (enc x) = some (.lit (lit x), [])
  inv : ∀ v z, plainElem (H := Unit) P e v = some z → ∃ x, v = enc x ∧ z = (.lit (lit x), []) ∧ ok x
  inj : ∀ x y, lit x = lit y → x = y
  zok : ok zero
  zrun : ∀ w, (zeroValue e).run P w = .ok (enc zero) w
def elInt {P : Program} {e : TypeId} (he : P.underlying e = some (.int .i64)) (hz : ∀ w, (zeroValue e).run P w = .ok (.int .i64 0) w) : El P e Int where
  enc := .int .i64
  lit := .int .i64
  ok := fun x => (Lit.int .i64 x).wf = true
  zero := 0
  into := fun x hx => plainElem_int he hx
  inv := fun v z h => plainElem_int_inv he h
  inj := fun x y h => by injection h
  zok := by decide
  zrun := hz
section
variable {P : Program} {k e : TypeId} {α : Type} {E : El P e α}
/-- Block b is a map of at most n entries, from string (type k), that reads as_ f. -/
def SMap (E : El P e α) (k : TypeId) (W : World) (b n : Nat) (f : ByteArray → α) : Prop :=
  ∃ D : DataW Unit, W.ownsMap P k (plainElem P e) b n D ∧ Maps.IsMap D ∧ ∀ s : ByteArray, D.atKey (.string s.data.toList) (.lit (E.lit E.zero)) = .lit (E.lit (f s))
def put (f : ByteArray → α) (s : ByteArray) (v : α) : ByteArray → α := fun x => if x = s then v else f x
theorem SMap.kept {W W' : World} {b n : Nat} {f : ByteArray → α} (h : SMap E k W b n f) {row : Option Nat} (hg : W.grownBy W' row) (hne : some b ≠ row) : SMap E k W' b n f := by
  obtain ⟨D, h1, h2, h3⟩ := h
  exact ⟨D, h1.kept hg hne, h2, h3⟩
theorem SMap.lt {W : World} {b n : Nat} {f : ByteArray → α} (h : SMap E k W b n f) : b < W.heap.size := by
  obtain ⟨D, h1, _⟩ := h
  exact h1.lt
theorem SMap.at {W W' : World} {b n : Nat} {f : ByteArray → α} (h : SMap E k W b n f) (hb : W'.heap[b]? = W.heap[b]?) : SMap E k W' b n f := by
  obtain ⟨D, ⟨es, c, h1, h5⟩, h2, h3⟩ := h
  exact ⟨D, ⟨es, c, hb.trans h1, h5⟩, h2, h3⟩
theorem SMap.below {W W' : World} {b n : Nat} {f : ByteArray → α} (h : SMap E k W b n f) (hb : Below W.heap.size W W') : SMap E k W' b n f := h.at (hb.block _ h.lt)
theorem SMap.mono {W : World} {b n m : Nat} {f : ByteArray → α} (h : SMap E k W b n f) (hn : n ≤ m) : SMap E k W b m f := by
  obtain ⟨D, h1, h2, h3⟩ := h
  exact ⟨D, h1.mono hn, h2, h3⟩
theorem SMap.congr {W : World} {b n : Nat} {f g : ByteArray → α} (h : SMap E k W b n f) (hfg : ∀ s, f s = g s) : SMap E k W b n g := (funext hfg : f = g) ▸ h
theorem toList_inj {a b : ByteArray} (h : a.data.toList = b.data.toList) : a = b := by
  cases a; cases b
  simp only [ByteArray.mk.injEq]
  exact Array.toList_inj.1 h
theorem SMap.put_ {W : World} {b n : Nat} {f : ByteArray → α} {t : TypeId} (h : SMap E k W b n f) (ht : P.underlying t = some (.map k e)) (hk : P.underlying k = some .string) (hn : n < maxLen) (s : ByteArray) (hs : s.size ≤ maxLen) (v : α) (hv : E.ok v) :
    ∃ w', (Instr.mapUpdate t (.map (some b)) (.string s) (E.enc v)).run P W = .ok () w' ∧ SMap E k w' b (n + 1) (put f s v) ∧ W.grownBy w' (some b) := by
  obtain ⟨D, h1, h2, h3⟩ := h
  obtain ⟨w', hrun, r1, r2⟩ := h1.update (Maps.string_keyed hk) ht hn (WideMaps.keyOf_string_mk hk hs) (E.into v hv)
  refine ⟨w', hrun, ⟨_, r1, h2.put _ _, fun x => ?_⟩, r2⟩
  unfold put
  by_cases hx : x = s
  · subst hx
    rw [if_pos rfl]
    exact Maps.atKey_put_same h2 (by simp [WideAt.IsKeyLit]) _ _
  · rw [if_neg hx, Maps.atKey_put_other (fun hl => hx (toList_inj (by injection hl)))]
    exact h3 x
theorem SMap.get_ {W : World} {b n : Nat} {f : ByteArray → α} {t : TypeId} (h : SMap E k W b n f) (ht : P.underlying t = some (.map k e)) (hk : P.underlying k = some .string) (s : ByteArray) (hs : s.size ≤ maxLen) :
    (Instr.lookup t (.map (some b)) (.string s) false).run P W = .ok (E.enc (f s)) W ∧ E.ok (f s) := by
  obtain ⟨D, h1, h2, h3⟩ := h
  obtain ⟨v, ps, hrun, hR⟩ := h1.lookup (Maps.string_keyed hk) ht (E.zrun W) (E.into E.zero E.zok) (WideMaps.keyOf_string_mk hk hs)
  rw [h3 s] at hR
  obtain ⟨x, rfl, hz, hx⟩ := E.inv _ _ hR
  simp only [Prod.mk.injEq] at hz
  have : E.lit (f s) = E.lit x := by have := hz.1; injection this
  obtain rfl := E.inj _ _ this
  exact ⟨hrun, hx⟩
end
section
variable {P : Program} {k e : TypeId} {α : Type} {E : El P e α} {ops : Array Oper} {Q : Exit → Act → World → Prop}
theorem smake_event {rest : List Oper} {o : Oper} {a : Act} {W : World} (hg : o.guard = none) {t : TypeId} (hop : o.op = .makeMap t none) (E : El P e α) (k : TypeId)
    (h : ∀ gm w2, gm = W.heap.size → SMap E k w2 gm 0 (fun _ => E.zero) → Below W.heap.size W w2 → wpList P ops Q rest (a.put o.dst (.map (some gm))) w2) : wpList P ops Q (o :: rest) a W := by
  refine wpList_plain hg fun K hK => ?_
  unfold Oper.wp
  simp only [execOp, hop]
  simp [run_makeMap, Result.andThen]
  exact hK _ _ (h _ _ rfl ⟨.map [], World.ownsMap_made W P k _, Maps.isMap_empty, fun c => rfl⟩ (below_alloc (Below.refl _ _) _))
theorem sput_event {rest : List Oper} {o : Oper} {a : Act} {W : World} (hg : o.guard = none) {t : TypeId} {m x v : Operand} (hop : o.op = .mapUpdate t m x v) (ht : P.underlying t = some (.map k e)) (hk : P.underlying k = some .string)
    {b n : Nat} {f : ByteArray → α} (hm : a.eval m = .map (some b)) (hown : SMap E k W b n f) (hn : n < maxLen) (key : ByteArray) (val : α) (hx : a.eval x = .string key) (hv : a.eval v = E.enc val) (hkey : key.size ≤ maxLen) (hval : E.ok val)
    (h : ∀ w2, SMap E k w2 b (n + 1) (put f key val) → W.grownBy w2 (some b) → wpList P ops Q rest (a.put o.dst undef) w2) : wpList P ops Q (o :: rest) a W := by
  refine wpList_plain hg fun K' hK' => ?_
  obtain ⟨w', hrun, r1, r2⟩ := hown.put_ ht hk hn key hkey val hval
  unfold Oper.wp
  simp [execOp, hop, hm, hx, hv, hrun, Result.andThen]
  exact hK' _ _ (h w' r1 r2)
theorem sget_event {rest : List Oper} {o : Oper} {a : Act} {W : World} (hg : o.guard = none) {t : TypeId} {m x : Operand} (hop : o.op = .lookup t m x false) (ht : P.underlying t = some (.map k e)) (hk : P.underlying k = some .string)
    {b n : Nat} {f : ByteArray → α} (hm : a.eval m = .map (some b)) (hown : SMap E k W b n f) (key : ByteArray) (hx : a.eval x = .string key) (hkey : key.size ≤ maxLen)
    (h : wpList P ops Q rest (a.put o.dst (E.enc (f key))) W) : wpList P ops Q (o :: rest) a W := by
  refine wpList_plain hg fun K' hK' => ?_
  obtain ⟨hrun, _⟩ := hown.get_ ht hk key hkey
  unfold Oper.wp
  simp [execOp, hop, hm, hx, hrun, Result.andThen]
  exact hK' _ _ h
end
end Go.Proofs.Ytfidfpmgoaainaa.Sm
end
section
namespace Go.Proofs.Ytfidfpmgoaainaa.Px
open Go.RowKit Go.Proofs.YtfidfpmgoaainaaW.PrintWords Go.Proofs.YtfidfpmgoaainaaW.PrintLast Go.Proofs.Ytfidfpmgoaainaa.Pl Go.Proofs.Ytfidfpmgoaainaa.Ext
set_option linter.unusedVariables false
set_option linter.unusedSimpArgs false
def hasB (l : List ByteArray) (s : ByteArray) : Bool := l.any (fun x => decide (x = s))
def uni (out : List ByteArray) : List ByteArray → List ByteArray
  | [] => out
  | s :: r => if hasB out s = true then uni out r else uni (out ++ [s]) r
theorem tl (s : ByteArray) : s.toList = s.data.toList := Lib.toList_data s
theorem drop_at (out : List ByteArray) (j : Nat) (h : j < out.length) : out.drop j = out.getD j ByteArray.empty :: out.drop (j + 1) := by
  rw [List.drop_eq_getElem_cons h, List.getD_eq_getElem?_getD, List.getElem?_eq_getElem h]
  rfl
theorem hasB_iff (l : List ByteArray) (s : ByteArray) : hasB l s = true ↔ s ∈ l := by
  unfold hasB
  rw [List.any_eq_true]
  constructor
  · rintro ⟨x, hx, h⟩
    rw [decide_eq_true_eq] at h
    exact h ▸ hx
  · intro h
    exact ⟨s, h, decide_eq_true rfl⟩
/-- Is the name found from a place on? -/
theorem idx_ev (xs : List ByteArray) (hx : xs.length ≤ 1048576) (s : ByteArray) : ∃ t : Int, Ev (fun k => spec_IndexOf.f k xs s) t ∧ (t < 0 ↔ hasB xs s = false) := by
  suffices h : ∀ (m i : Nat), i + m = xs.length → ∃ t : Int, Ev (fun k => spec_IndexOf.l0 k xs s (i : Int)) t ∧ (t < 0 ↔ hasB (xs.drop i) s = false) by
    obtain ⟨t, h1, h2⟩ := h xs.length 0 (by omega)
    exact ⟨t, h1, by simpa using h2⟩
  intro m
  induction m with
  | zero =>
    intro i hi
    refine ⟨-1, Ev.up ?_, ?_⟩
    · simp only [spec_IndexOf.l0]; exact Ev.neg (by omega) (Ev.now _)
    · rw [List.drop_of_length_le (by omega)]; simp [hasB]
  | succ m ih =>
    intro i hi
    obtain ⟨t, h1, h2⟩ := ih (i + 1) (by omega)
    rw [drop_at xs i (by omega)]
    by_cases hc : (rdOf ByteArray.empty xs (i : Int)).toList = s.toList
    · refine ⟨(i : Int), Ev.up ?_, ?_⟩
      · simp only [spec_IndexOf.l0]; exact Ev.pos (by omega) (Ev.pos (by omega) (Ev.pos hc (Ev.now _)))
      · rw [rdOf_str, tl, tl] at hc
        have := Sm.toList_inj hc
        constructor
        · intro h; omega
        · intro h
          have h' : hasB (xs.getD i ByteArray.empty :: xs.drop (i + 1)) s = true := (hasB_iff _ _).2 (by rw [this]; exact List.mem_cons_self ..)
          rw [h'] at h
          cases h
    · refine ⟨t, Ev.up ?_, ?_⟩
      · simp only [spec_IndexOf.l0]
        refine Ev.pos (by omega) (Ev.pos (by omega) (Ev.neg hc ?_))
        rw [w1' (n := xs.length) (by omega) hx]; exact h1
      · rw [h2]
        have hne : ¬ xs.getD i ByteArray.empty = s := fun h => hc (by rw [rdOf_str, h])
        have e : hasB (xs.getD i ByteArray.empty :: xs.drop (i + 1)) s = hasB (xs.drop (i + 1)) s := by unfold hasB; rw [List.any_cons, decide_eq_false hne, Bool.false_or]
        rw [e]
theorem uni_len : ∀ (l acc : List ByteArray), (uni acc l).length ≤ acc.length + l.length
  | [], acc => by simp [uni]
  | s :: r, acc => by
    unfold uni
    split
    · have := uni_len r acc; simp; omega
    · have := uni_len r (acc ++ [s]); simp at this ⊢; omega
theorem uni_append : ∀ (a b acc : List ByteArray), uni acc (a ++ b) = uni (uni acc a) b
  | [], b, acc => rfl
  | s :: r, b, acc => by
    by_cases h : hasB acc s = true
    · have e1 : uni acc (s :: (r ++ b)) = uni acc (r ++ b) := by rw [uni, if_pos h]
      have e2 : uni acc (s :: r) = uni acc r := by rw [uni, if_pos h]
      rw [List.cons_append, e1, e2]
      exact uni_append r b acc
    · have e1 : uni acc (s :: (r ++ b)) = uni (acc ++ [s]) (r ++ b) := by rw [uni, if_neg h]
      have e2 : uni acc (s :: r) = uni (acc ++ [s]) r := by rw [uni, if_neg h]
      rw [List.cons_append, e1, e2]
      exact uni_append r b (acc ++ [s])
theorem uni_nodup : ∀ (l acc : List ByteArray), acc.Nodup → (uni acc l).Nodup
  | [], acc, h => h
  | s :: r, acc, h => by
    unfold uni
    split
    · exact uni_nodup r acc h
    · rename_i hs
      refine uni_nodup r _ (List.nodup_append.2 ⟨h, List.pairwise_singleton _ _, ?_⟩)
      intro a ha b hb
      rw [List.mem_singleton.1 hb]
      intro e
      exact hs ((hasB_iff acc s).2 (e ▸ ha))
theorem unite_l1 (b : List ByteArray) (hb : b.length ≤ 1048576) : ∀ (m i : Nat) (acc : List ByteArray), i + m = b.length → acc.length + m ≤ 2097152 → acc.length + m ≤ 1048576 → Ev (fun k => spec_UniteNames.l1 k b acc (i : Int)) (uni acc (b.drop i)) := by
  intro m
  induction m with
  | zero =>
    intro i acc hi _ _
    refine Ev.up ?_
    simp only [spec_UniteNames.l1]
    rw [List.drop_of_length_le (by omega)]
    exact Ev.neg (by omega) (Ev.now _)
  | succ m ih =>
    intro i acc hi hl hl2
    refine Ev.up ?_
    simp only [spec_UniteNames.l1, w1' (show i < b.length by omega) hb, rdOf_str]
    obtain ⟨t, h1, h2⟩ := idx_ev acc (by omega) (b.getD i ByteArray.empty)
    refine Ev.pos (by omega) (Ev.pos (by omega) (Ev.bind h1 ?_))
    rw [drop_at b i (by omega)]
    unfold uni
    by_cases hc : hasB acc (b.getD i ByteArray.empty) = true
    · rw [if_pos hc]
      refine Ev.neg (fun h => by rw [h2.1 h] at hc; cases hc) (ih (i + 1) acc (by omega) (by omega) (by omega))
    · rw [if_neg hc]
      refine Ev.pos (h2.2 (by simpa using hc)) (Ev.pos (by omega) (ih (i + 1) _ (by omega) (by simp; omega) (by simp; omega)))
theorem spec_UniteNames_ev (a b : List ByteArray) (hl : a.length + b.length ≤ 1048576) : Ev (fun k => spec_UniteNames.f k a b) (uni [] (a ++ b)) := by
  suffices h : ∀ (m i : Nat) (acc : List ByteArray), i + m = a.length → acc.length ≤ i → Ev (fun k => spec_UniteNames.l0 k a b acc (i : Int)) (uni acc (a.drop i ++ b)) by
    simp only [spec_UniteNames.f]
    simpa using h a.length 0 [] (by omega) (Nat.le_refl _)
  intro m
  induction m with
  | zero =>
    intro i acc hi ha
    refine Ev.up ?_
    simp only [spec_UniteNames.l0]
    rw [List.drop_of_length_le (by omega), List.nil_append]
    refine Ev.neg (by omega) ?_
    have := unite_l1 b (by omega) b.length 0 acc (by omega) (by omega) (by omega)
    simpa using this
  | succ m ih =>
    intro i acc hi ha
    refine Ev.up ?_
    simp only [spec_UniteNames.l0, w1' (show i < a.length by omega) (show a.length ≤ 1048576 by omega), rdOf_str]
    obtain ⟨t, h1, h2⟩ := idx_ev acc (by omega) (a.getD i ByteArray.empty)
    refine Ev.pos (by omega) (Ev.pos (by omega) (Ev.bind h1 ?_))
    rw [drop_at a i (by omega), List.cons_append]
    unfold uni
    by_cases hc : hasB acc (a.getD i ByteArray.empty) = true
    · rw [if_pos hc]
      refine Ev.neg (fun h => by rw [h2.1 h] at hc; cases hc) (ih (i + 1) acc (by omega) (by omega))
    · rw [if_neg hc]
      refine Ev.pos (h2.2 (by simpa using hc)) (Ev.pos (by omega) (ih (i + 1) _ (by omega) (by simp; omega)))

end Go.Proofs.Ytfidfpmgoaainaa.Px
end
section
namespace Go.Proofs.Ytfidfpmgoaainaa.Px
open Go.RowKit Go.Proofs.YtfidfpmgoaainaaW.PrintWords Go.Proofs.YtfidfpmgoaainaaW.PrintLast Go.Proofs.Ytfidfpmgoaainaa.Pl Go.Proofs.Ytfidfpmgoaainaa.Ext
set_option linter.unusedVariables false
set_option linter.unusedSimpArgs false
theorem zeroI (w : World) : (zeroValue 3).run Try.prog w = .ok (.int .i64 0) w := by kernel_rfl
noncomputable def eI : Sm.El Try.prog 3 Int := Sm.elInt Try.underlying3 zeroI
def bindAt (a : Int) (n : Nat) : Int := if a = 10 ∧ n = 2 then 1 else if a = 13 ∧ n = 1 then 0 else -1
mutual
def freeX : S36 → (ByteArray → Int) → List ByteArray → List ByteArray
  | ⟨a, nm, _, _, _, xs⟩, f, acc => if a = 1 then (if f nm = 0 ∧ hasB acc nm = false then acc ++ [nm] else acc) else freeXS xs (bindAt a xs.length) nm 0 f acc
def freeXS : List S36 → Int → ByteArray → Int → (ByteArray → Int) → List ByteArray → List ByteArray
  | [], _, _, _, _, acc => acc
  | x :: r, b, nm, i, f, acc => freeXS r b nm (i + 1) f (freeX x (if i = b then Sm.put f nm (f nm + 1) else f) acc)
end
theorem freeX_eq (x : S36) (f : ByteArray → Int) (acc : List ByteArray) : freeX x f acc = if x.f0 = 1 then (if f x.f1 = 0 ∧ hasB acc x.f1 = false then acc ++ [x.f1] else acc) else freeXS x.f5 (bindAt x.f0 x.f5.length) x.f1 0 f acc := by
  obtain ⟨a, nm, n, t, ls, xs⟩ := x
  rw [freeX]
theorem binds_ev (x : S36) : Ev (fun k => impl_binds.f k x.f0 x.f1 x.f2 x.f3.f0 x.f3.f1 x.f3.f2 x.f4 x.f5) (bindAt x.f0 x.f5.length) := by
  have hj : ∀ b : Bool, (b = true ↔ x.f0 = 10 ∧ x.f5.length = 2) → Ev (fun k => impl_binds.j0 k b x.f0 x.f5) (bindAt x.f0 x.f5.length) := by
    intro b hb
    refine Ev.up ?_
    simp only [impl_binds.j0]
    unfold bindAt
    by_cases h : b = true
    · rw [show (if x.f0 = 10 ∧ x.f5.length = 2 then (1 : Int) else if x.f0 = 13 ∧ x.f5.length = 1 then 0 else -1) = 1 from if_pos (hb.1 h)]; exact Ev.pos h (Ev.now _)
    · rw [show (if x.f0 = 10 ∧ x.f5.length = 2 then (1 : Int) else if x.f0 = 13 ∧ x.f5.length = 1 then 0 else -1) = (if x.f0 = 13 ∧ x.f5.length = 1 then 0 else -1) from if_neg (fun h2 => h (hb.2 h2))]
      refine Ev.neg h ?_
      by_cases h13 : x.f0 = 13
      · refine Ev.pos h13 ?_
        by_cases h1 : x.f5.length = 1
        · rw [show (if x.f0 = 13 ∧ x.f5.length = 1 then (0 : Int) else -1) = 0 from if_pos ⟨h13, h1⟩]; exact Ev.pos (by omega) (Ev.now _)
        · rw [show (if x.f0 = 13 ∧ x.f5.length = 1 then (0 : Int) else -1) = -1 from if_neg (fun h => h1 h.2)]; exact Ev.neg (by omega) (Ev.now _)
      · rw [show (if x.f0 = 13 ∧ x.f5.length = 1 then (0 : Int) else -1) = -1 from if_neg (fun h => h13 h.1)]; exact Ev.neg h13 (Ev.now _)
  simp only [impl_binds.f]
  by_cases h : x.f0 = 10
  · exact Ev.pos h (hj _ (by simp only [beq_iff_eq]; omega))
  · exact Ev.neg h (hj _ (by simp [h]))
theorem contains_ev (xs : List ByteArray) (hx : xs.length ≤ 4194304) (s : ByteArray) : Ev (fun k => slices_Contains_string_string.f k xs s) (hasB xs s) := by
  suffices h : ∀ (m i : Nat), i + m = xs.length → ∃ t : Int, Ev (fun k => slices_Index_string_string.l0 k xs s (xs.length : Int) (i : Int)) t ∧ decide (t ≥ 0) = hasB (xs.drop i) s by
    obtain ⟨t, h1, h2⟩ := h xs.length 0 (by omega)
    simp only [slices_Contains_string_string.f]
    refine Ev.bind (a := t) h1 (Ev.const ?_)
    simpa using h2
  intro m
  induction m with
  | zero =>
    intro i hi
    refine ⟨-1, Ev.up ?_, ?_⟩
    · simp only [slices_Index_string_string.l0]; exact Ev.neg (by omega) (Ev.now _)
    · rw [List.drop_of_length_le (by omega)]; rfl
  | succ m ih =>
    intro i hi
    obtain ⟨t, h1, h2⟩ := ih (i + 1) (by omega)
    rw [drop_at xs i (by omega)]
    by_cases hc : s.toList = (rdOf ByteArray.empty xs (i : Int)).toList
    · refine ⟨(i : Int), Ev.up ?_, ?_⟩
      · simp only [slices_Index_string_string.l0]; exact Ev.pos (by omega) (Ev.pos (by omega) (Ev.pos (by omega) (Ev.pos hc (Ev.now _))))
      · rw [rdOf_str, tl, tl] at hc
        have h' : hasB (xs.getD i ByteArray.empty :: xs.drop (i + 1)) s = true := (hasB_iff _ _).2 (by rw [← Sm.toList_inj hc]; exact List.mem_cons_self ..)
        rw [h']
        exact decide_eq_true (by omega)
    · refine ⟨t, Ev.up ?_, ?_⟩
      · simp only [slices_Index_string_string.l0]
        refine Ev.pos (by omega) (Ev.pos (by omega) (Ev.pos (by omega) (Ev.neg hc ?_)))
        rw [w1 (n := xs.length) (by omega) (by unfold maxLen; omega)]; exact h1
      · have hne : ¬ xs.getD i ByteArray.empty = s := fun h => hc (by rw [rdOf_str, h])
        have e : hasB (xs.getD i ByteArray.empty :: xs.drop (i + 1)) s = hasB (xs.drop (i + 1)) s := by unfold hasB; rw [List.any_cons, decide_eq_false hne, Bool.false_or]
        rw [e]
        exact h2
theorem dropT (xs : List S36) (i : Nat) (h : i < xs.length) : xs.drop i = xs.getD i z36 :: xs.drop (i + 1) := by
  rw [List.drop_eq_getElem_cons h, List.getD_eq_getElem?_getD, List.getElem?_eq_getElem h]
  rfl
mutual
theorem freeX_len : ∀ (x : S36) (f : ByteArray → Int) (acc : List ByteArray), (freeX x f acc).length ≤ acc.length + ndTerm x
  | ⟨a, nm, n, t, ls, xs⟩, f, acc => by
    have h := freeXS_len xs (bindAt a xs.length) nm 0 f acc
    rw [freeX, ndTerm]
    split
    · split
      · simp only [List.length_append, List.length_cons, List.length_nil]; omega
      · omega
    · omega
theorem freeXS_len : ∀ (xs : List S36) (b : Int) (nm : ByteArray) (i : Int) (f : ByteArray → Int) (acc : List ByteArray), (freeXS xs b nm i f acc).length ≤ acc.length + ndTermS xs
  | [], b, nm, i, f, acc => by rw [freeXS]; omega
  | x :: r, b, nm, i, f, acc => by
    have h1 := freeX_len x (if i = b then Sm.put f nm (f nm + 1) else f) acc
    have h2 := freeXS_len r b nm (i + 1) f (freeX x (if i = b then Sm.put f nm (f nm + 1) else f) acc)
    rw [freeXS, ndTermS]
    omega
end
theorem nd_pos (x : S36) : 1 ≤ ndTerm x := by rw [ndTerm_eq]; omega
set_option maxHeartbeats 8000000 in
set_option maxRecDepth 100000 in
theorem freeIn_go : ∀ x : S36, SmTerm x → ∀ (ad0 : Addr) (A4 : Option Addr) (c4 : Nat) (A5 : Option Addr) (c5 : Nat) (A6 : Option Addr) (c6 : Nat) (A7 : Option Addr) (c7 : Nat) (w0 w : World) (bm n : Nat) (f : ByteArray → Int) (v : Value) (acc : List ByteArray),
    Cells w0 ad0 [.int .i64 x.f0, .string x.f1, .int .i64 x.f2, .int .i64 x.f3.f0, .slice A4 x.f3.f1.length c4, .slice A5 x.f3.f2.length c5, .slice A6 x.f4.length c6, .slice A7 x.f5.length c7] →
    Kd.C Kd.string w0 A4 x.f3.f1.length x.f3.f1 → x.f3.f1.length ≤ c4 → Kd.C k33 w0 A5 x.f3.f2.length x.f3.f2 → x.f3.f2.length ≤ c5 → Kd.C Kd.string w0 A6 x.f4.length x.f4 → x.f4.length ≤ c6 → Kd.C k36 w0 A7 x.f5.length x.f5 → x.f5.length ≤ c7 →
    w0.heap.size ≤ bm → Sm.SMap eI 9 w bm n f → n + 4 * ndTerm x ≤ 1000000000 → (∀ s, 0 ≤ f s ∧ f s + ndTerm x ≤ 1000000000) → acc.length + ndTerm x ≤ 4194304 → Kd.R Kd.string 9 w w0.heap.size (fun k => k ≠ bm) v acc → Below w0.heap.size w0 w →
    Calls Try.prog 45 #[.pointer (some ad0), .map (some bm), v] w fun e w' => ∃ v', e = .returned v' ∧ Kd.R Kd.string 9 w' w0.heap.size (fun k => k ≠ bm) v' (freeX x f acc) ∧ (∃ n', n' + 2 ≤ n + 4 * ndTerm x ∧ Sm.SMap eI 9 w' bm n' f) ∧ Below w0.heap.size w0 w' := by
  refine indTermI fun x ih hs => ?_
  intro ad0 A4 c4 A5 c5 A6 c6 A7 c7 w0 w bm n f v acc hp h4 g4 h5 g5 h6 g6 h7 g7 hbm hm hn hf hl ho hb
  have HP := Aside0.mk hp; have H4 := Aside0.mk (And.intro h4 g4); have H5 := Aside0.mk (And.intro h5 g5); have H6 := Aside0.mk (And.intro h6 g6); have H7 := Aside0.mk (And.intro h7 g7)
  have HBM := Aside0.mk hbm; have HM := Aside0.mk hm; have HN := Aside0.mk hn; have HF := Aside0.mk hf; have HL := Aside0.mk hl; have HO := Aside0.mk ho; have HB := Aside0.mk hb
  have HS := Aside0.mk hs
  have HK : Aside0 (x.f1.size ≤ maxLen) := ⟨by have := hs.p1; unfold maxLen; omega⟩
  have HX := Aside0.mk (freeX_eq x f acc)
  have HND := Aside0.mk (nd_pos x)
  have hx0 : w.cell? ad0 = some (.int .i64 x.f0) := pw_cell_below HB.out HP.out.1
  have hx1 : w.cell? ⟨ad0.block, ad0.off + 1, none⟩ = some (.string x.f1) := pw_cell_below HB.out HP.out.2.1
  have hx7 : w.cell? ⟨ad0.block, ad0.off + 7, none⟩ = some (.slice A7 x.f5.length c7) := pw_cell_below HB.out HP.out.2.2.2.2.2.2.2.1
  clear hp h4 g4 h5 g5 h6 g6 h7 g7 hbm hm hn hf hl ho hb hs
  by_cases h1 : x.f0 = 1
  · have c1 : (x.f0 == 1) = true := beq_iff_eq.mpr h1
    have HX2 : Aside0 (freeX x f acc = if f x.f1 = 0 ∧ hasB acc x.f1 = false then acc ++ [x.f1] else acc) := ⟨by rw [HX.out, if_pos h1]⟩
    clear h1 HX ih
    obtain ⟨Av, cv, ev⟩ := Kd.R_slice HO.out
    subst ev
    by_cases hf0 : f x.f1 = 0
    · have cf : (f x.f1 == 0) = true := beq_iff_eq.mpr hf0
      have HF0 := Aside0.mk hf0
      clear hf0
      obtain ⟨K, hK⟩ := contains_ev acc (by have := HL.out; omega) x.f1
      have HC := Aside0.mk (hK K (Nat.le_refl K))
      clear hK
      by_cases hh : hasB acc x.f1 = true
      · rw [hh] at HC
        go_enter Try.func45, Try.ntmps45
        go_wp2_with (first
          | ((with_reducible refine gate_lookup (t := 63) rfl ?_); refine Sm.sget_event (E := eI) rfl rfl Try.underlying63 Try.underlying9 rfl HM.out x.f1 rfl HK.out (?_ : wpList _ _ _ _ (Act.put _ _ (.int .i64 (f x.f1))) _))
          | (go_at_call 50; refine (slices_Contains_string_string.calls K _ _ acc x.f1 true _ (Kd.R_reads' HO.out).2.2 (Kd.R_reads' HO.out).2.1 HC.out).mono ?_; rintro e w2 ⟨rfl, hd⟩; have HB2 := Aside0.mk (below_step HB.out (Drawn0.below hd)); have HO2 := Aside0.mk (Kd.R_below HO.out (Drawn0.below hd)); have HM2 := Aside0.mk (HM.out.below (Drawn0.below hd)); clear hd))
        go_ret
        refine ⟨_, rfl, ?_, ⟨n, by have := HND.out; omega, HM2.out⟩, HB2.out⟩
        rw [HX2.out, if_neg (by rw [hh]; intro h; cases h.2)]
        exact HO2.out
      · replace hh : hasB acc x.f1 = false := by simpa using hh
        rw [hh] at HC
        have HH := Aside0.mk hh
        clear hh
        go_enter Try.func45, Try.ntmps45
        go_wp2_with (first
          | ((with_reducible refine gate_lookup (t := 63) rfl ?_); refine Sm.sget_event (E := eI) rfl rfl Try.underlying63 Try.underlying9 rfl HM.out x.f1 rfl HK.out (?_ : wpList _ _ _ _ (Act.put _ _ (.int .i64 (f x.f1))) _))
          | (go_at_call 50; refine (slices_Contains_string_string.calls K _ _ acc x.f1 false _ (Kd.R_reads' HO.out).2.2 (Kd.R_reads' HO.out).2.1 HC.out).mono ?_; rintro e w2 ⟨rfl, hd⟩; have HB2 := Aside0.mk (below_step HB.out (Drawn0.below hd)); have HO2 := Aside0.mk (Kd.R_below HO.out (Drawn0.below hd)); have HM2 := Aside0.mk (HM.out.below (Drawn0.below hd)); have hy1 : w2.cell? ⟨ad0.block, ad0.off + 1, none⟩ = some (.string x.f1) := pw_cell_below HB2.out HP.out.2.1; clear hd hx0 hx1 hx7)
          | ((with_reducible refine gate_builtin (b := .append) (xs := #[.tmp 29, .tmp 34]) rfl ?_); at_builtin
             refine Kd.R_append Kd.string (w0 := w0) w0.heap.size rfl (.tmp 29) (.tmp 34) 22 9 (.string ⟨#[]⟩) 16 rfl Try.underlying22 info9 rfl (by decide) (by omega) _ acc x.f1 [.string x.f1] (fun k => k ≠ bm) (fun _ => False) rfl rfl ?aP (fun _ hk => hk.elim) ?aF ?aO ?aB ?aS ?aL ?_
             (case aP => exact rfl)
             (case aB => exact HB2.out)
             (case aF => exact (fun k hk e_ => by have := HM2.out.lt; omega))
             (case aO => exact HO2.out)
             (case aS => exact below_size HB2.out)
             (case aL => have := HL.out; omega)
             intro v7 w7 ho hb hg hat
             have HO7 := Aside0.mk ho
             have HM7 := Aside0.mk (HM2.out.kept hg (fun e_ => HO2.out.1 bm e_.symm rfl))
             have HB7 := Aside0.mk hb
             clear ho hb hg hat))
        go_ret
        refine ⟨_, rfl, ?_, ⟨n, by have := HND.out; omega, HM7.out⟩, HB7.out⟩
        rw [HX2.out, if_pos ⟨HF0.out, HH.out⟩]
        exact HO7.out
    · have cf : (f x.f1 == 0) = false := beq_eq_false_iff_ne.mpr hf0
      have HF0 := Aside0.mk hf0
      clear hf0
      go_enter Try.func45, Try.ntmps45
      go_wp2_with ((with_reducible refine gate_lookup (t := 63) rfl ?_); refine Sm.sget_event (E := eI) rfl rfl Try.underlying63 Try.underlying9 rfl HM.out x.f1 rfl HK.out (?_ : wpList _ _ _ _ (Act.put _ _ (.int .i64 (f x.f1))) _))
      go_ret
      refine ⟨_, rfl, ?_, ⟨n, by have := HND.out; omega, HM.out⟩, HB.out⟩
      rw [HX2.out, if_neg (fun h => HF0.out h.1)]
      exact HO.out
  · have c1 : (x.f0 == 1) = false := beq_eq_false_iff_ne.mpr h1
    have HX2 : Aside0 (freeX x f acc = freeXS x.f5 (bindAt x.f0 x.f5.length) x.f1 0 f acc) := ⟨by rw [HX.out, if_neg h1]⟩
    have HNS : Aside0 (ndTerm x = 1 + ndTermS x.f5) := ⟨by rw [ndTerm_eq, ndTermS_sum]⟩
    have HIH := Aside0.mk ih
    obtain ⟨KB, hKB⟩ := binds_ev x
    have HBI := Aside0.mk (hKB KB (Nat.le_refl KB))
    clear h1 HX ih hKB
    obtain ⟨b, hb⟩ : ∃ b, b = bindAt x.f0 x.f5.length := ⟨_, rfl⟩
    rw [← hb] at HX2 HBI
    clear hb
    go_enter Try.func45, Try.ntmps45
    go_wp2
    go_loopg [2, 42] x.f5.length (fun gq v2 v42 w' => ∃ (i : Nat) (acc' : List ByteArray) (n' : Nat), v42 = .int .i64 (i : Int) ∧ Aside0 (i + gq = x.f5.length ∧ n' + 4 * ndTermS (x.f5.drop i) + 4 ≤ n + 4 * ndTerm x ∧ acc'.length + ndTermS (x.f5.drop i) ≤ acc.length + ndTerm x ∧ freeXS (x.f5.drop i) b x.f1 (i : Int) f acc' = freeX x f acc) ∧ Aside0 (Kd.R Kd.string 9 w' w0.heap.size (fun k => k ≠ bm) v2 acc') ∧ Aside0 (Sm.SMap eI 9 w' bm n' f) ∧ Aside0 (Below w0.heap.size w0 w'))
    case atStart => exact ⟨0, acc, n, by first | rfl | simp, ⟨by omega, by rw [List.drop_zero, HNS.out]; omega, by rw [List.drop_zero, HNS.out]; omega, by rw [List.drop_zero, HX2.out]; rfl⟩, HO, HM, HB⟩
    case round =>
      clear HO HM HB hx0 hx1 hx7
      obtain ⟨i, acc', n', rfl, HI, HO, HM, HB⟩ := hrel
      have hx0 : wr.cell? ad0 = some (.int .i64 x.f0) := pw_cell_below HB.out HP.out.1
      have hx1 : wr.cell? ⟨ad0.block, ad0.off + 1, none⟩ = some (.string x.f1) := pw_cell_below HB.out HP.out.2.1
      have hx7 : wr.cell? ⟨ad0.block, ad0.off + 7, none⟩ = some (.slice A7 x.f5.length c7) := pw_cell_below HB.out HP.out.2.2.2.2.2.2.2.1
      by_cases d1 : i < x.f5.length
      · have d2 : (i : Int) < (x.f5.length : Int) := by omega
        have d4 : decide ((i : Int) < (x.f5.length : Int)) = true := decide_eq_true d2
        have d3 := eq_true d2
        have d5 : (0 ≤ (i : Int)) = True := eq_true (by omega)
        have hmem : rd_T36 x.f5 (i : Int) ∈ x.f5 := mem_getD x.f5 z36 i d1
        have hdr : Aside0 (x.f5.drop i = rd_T36 x.f5 (i : Int) :: x.f5.drop (i + 1)) := ⟨dropT x.f5 i d1⟩
        have hnd2 : Aside0 (ndTermS (x.f5.drop i) = ndTerm (rd_T36 x.f5 (i : Int)) + ndTermS (x.f5.drop (i + 1))) := ⟨by rw [hdr.out, ndTermS]⟩
        have hsub : Aside0 (ndTerm (rd_T36 x.f5 (i : Int)) ≤ ndTermS x.f5) := ⟨by rw [ndTermS_sum]; exact sum_le_of_mem ndTerm hmem⟩
        have hpos := Aside0.mk (nd_pos (rd_T36 x.f5 (i : Int)))
        have HY := Aside0.mk (HIH.out _ hmem (HS.out.p5.2 _ hmem))
        have hw1 : Aside0 (wrap64 ((i : Int) + 1) = ((i + 1 : Nat) : Int)) := ⟨w1 d1 (by have := HS.out.p5.1; unfold maxLen; omega)⟩
        obtain ⟨ad, B4, e4, B5, e5, B6, e6, B7, e7, eA, y0, y1, y2, y3, y4, y5, y6, y7, m4, o4, m5, o5, m6, o6, m7, o7⟩ := at_T36 H7.out.1 (i : Int) (by omega) d2
        cases eA
        replace HY := Aside0.mk (HY.out (ad.add (i * 8)) B4 e4 B5 e5 B6 e6 B7 e7 w0)
        replace HY := Aside0.mk (fun w bm n f v acc => HY.out w bm n f v acc (show Cells w0 _ _ from ⟨y0, y1, y2, y3, y4, y5, y6, y7, trivial⟩) o4 m4 o5 m5 o6 m6 o7 m7)
        have D1 := Aside0.mk d1
        clear d1 d2 hmem y0 y1 y2 y3 y4 y5 y6 y7 m4 o4 m5 o5 m6 o6 m7 o7 HIH
        go_upto_if 48 with (go_at_call 72; refine (impl_binds.calls KB ad0 x.f0 x.f1 x.f2 x.f3.f0 _ _ x.f3.f1 _ _ x.f3.f2 _ _ x.f4 _ _ x.f5 b _ (Cells_below HP.out HB.out) (Kd.C_below H4.out.1 HB.out) H4.out.2 (Kd.C_below H5.out.1 HB.out) H5.out.2 (Kd.C_below H6.out.1 HB.out) H6.out.2 (Kd.C_below H7.out.1 HB.out) H7.out.2 HBI.out).mono ?_; rintro e w2 ⟨rfl, hd⟩; have HB2 := Aside0.mk (below_step HB.out (Drawn0.below hd)); have HO2 := Aside0.mk (Kd.R_below HO.out (Drawn0.below hd)); have HM2 := Aside0.mk (HM.out.below (Drawn0.below hd)); have hz1 : w2.cell? ⟨ad0.block, ad0.off + 1, none⟩ = some (.string x.f1) := pw_cell_below HB2.out HP.out.2.1; have hz7 : w2.cell? ⟨ad0.block, ad0.off + 7, none⟩ = some (.slice (some ad) x.f5.length c7) := pw_cell_below HB2.out HP.out.2.2.2.2.2.2.2.1; clear hd hx0 hx1 hx7)
        have hfb := Aside0.mk (HF.out x.f1)
        by_cases hib : (i : Int) = b
        · have cb : ((i : Int) == b) = true := beq_iff_eq.mpr hib
          have HIB := Aside0.mk hib
          have hwa : Aside0 (wrap64 (f x.f1 + 1) = f x.f1 + 1) := ⟨w64 (by have := hfb.out; omega) (by have := hfb.out; omega)⟩
          clear hib
          (first | rw [cb] | (simp only [i64_w, i32_w]; rw [cb]) | skip)
          go_upto_region 10 with (first
            | ((with_reducible refine gate_lookup (t := 63) rfl ?_); refine Sm.sget_event (E := eI) rfl rfl Try.underlying63 Try.underlying9 rfl HM2.out x.f1 rfl HK.out (?_ : wpList _ _ _ _ (Act.put _ _ (.int .i64 (f x.f1))) _))
            | ((with_reducible refine gate_mapUpdate (t := 63) rfl ?_)
               refine Sm.sput_event (E := eI) rfl rfl Try.underlying63 Try.underlying9 rfl HM2.out (by have := HI.out.2.1; have := HN.out; unfold maxLen; omega) x.f1 (wrap64 (f x.f1 + 1)) rfl rfl HK.out (by rw [hwa.out]; exact WalkArith.wf_i64 (by have := hfb.out; omega)) ?_
               intro w3 him hg
               rw [hwa.out] at him
               have HM3 := Aside0.mk him
               have HO3 := Aside0.mk (Kd.R_grown HO2.out hg (fun k hk e_ => hk (by injection e_)))
               have HB3 := Aside0.mk (pw_below_grown HB2.out _ (below_size HB2.out) hg (fun k_ e_ => by injection e_ with e_; rw [← e_]; exact HBM.out))
               have hq1 : w3.cell? ⟨ad0.block, ad0.off + 1, none⟩ = some (.string x.f1) := pw_cell_below HB3.out HP.out.2.1
               have hq7 : w3.cell? ⟨ad0.block, ad0.off + 7, none⟩ = some (.slice (some ad) x.f5.length c7) := pw_cell_below HB3.out HP.out.2.2.2.2.2.2.2.1
               clear him hg hz1 hz7))
          go_upto_region 11 with (go_at_call 45; refine (HY.out w3 bm (n' + 1) (Sm.put f x.f1 (f x.f1 + 1)) _ acc' HBM.out HM3.out ?g1 ?g2 ?g3 HO3.out HB3.out).mono ?_; (case g1 => have := HI.out.2.1; have := HN.out; have := hnd2.out; omega); (case g2 => intro s; have h8 := HF.out s; have h9 := hfb.out; have := HNS.out; have := hsub.out; unfold Sm.put; split <;> omega); (case g3 => have := HI.out.2.2.1; have := HL.out; have := hnd2.out; omega); rintro e w4 ⟨v', rfl, ho, ⟨n2, hn2, hm⟩, hb4⟩; have HO4 := Aside0.mk ho; have HN4 := Aside0.mk hn2; have HM4 := Aside0.mk hm; have HB4 := Aside0.mk hb4; have hr1 : w4.cell? ⟨ad0.block, ad0.off + 1, none⟩ = some (.string x.f1) := pw_cell_below HB4.out HP.out.2.1; clear ho hn2 hm hb4 hq1 hq7)
          have hpu : Aside0 (Sm.put f x.f1 (f x.f1 + 1) x.f1 = f x.f1 + 1) := ⟨by unfold Sm.put; rw [if_pos rfl]⟩
          have hws : Aside0 (wrap64 (f x.f1) = f x.f1) := ⟨by rw [w64 (by have := hfb.out; omega) (by have := hfb.out; omega)]⟩
          go_wp2_with (first
            | ((with_reducible refine gate_lookup (t := 63) rfl ?_); refine Sm.sget_event (E := eI) rfl rfl Try.underlying63 Try.underlying9 rfl HM4.out x.f1 rfl HK.out ?_; rw [hpu.out]; refine (?_ : wpList _ _ _ _ (Act.put _ _ (.int .i64 (f x.f1 + 1))) _))
            | ((with_reducible refine gate_mapUpdate (t := 63) rfl ?_)
               refine Sm.sput_event (E := eI) rfl rfl Try.underlying63 Try.underlying9 rfl HM4.out (by have := HN4.out; have := HI.out.2.1; have := HN.out; have := hnd2.out; unfold maxLen; omega) x.f1 (wrap64 (f x.f1)) rfl rfl HK.out (by rw [hws.out]; exact WalkArith.wf_i64 (by have := hfb.out; omega)) ?_
               intro w5 him hg
               rw [hws.out] at him
               have HM5 : Aside0 (Sm.SMap eI 9 w5 bm (n2 + 1) f) := ⟨him.congr (fun s => by unfold Sm.put; split <;> simp_all)⟩
               have HO5 := Aside0.mk (Kd.R_grown HO4.out hg (fun k hk e_ => hk (by injection e_)))
               have HB5 := Aside0.mk (pw_below_grown HB4.out _ (below_size HB4.out) hg (fun k_ e_ => by injection e_ with e_; rw [← e_]; exact HBM.out))
               clear him hg hr1))
          go_roundg (gk - 1)
          case measure => have := HI.out; have := D1.out; omega
          case rel => exact ⟨i + 1, _, n2 + 1, (by rw [← hw1.out]), ⟨by have := HI.out; have := D1.out; omega, by have := HI.out.2.1; have := HN4.out; have := hnd2.out; omega, by have h1 := freeX_len (rd_T36 x.f5 (i : Int)) (Sm.put f x.f1 (f x.f1 + 1)) acc'; have := HI.out.2.2.1; have := hnd2.out; omega, by rw [← HI.out.2.2.2, hdr.out, freeXS, if_pos HIB.out]; rfl⟩, HO5, HM5, HB5⟩
        · have cb : ((i : Int) == b) = false := beq_eq_false_iff_ne.mpr hib
          have HIB := Aside0.mk hib
          clear hib
          (first | rw [cb] | (simp only [i64_w, i32_w]; rw [cb]) | skip)
          go_wp2_with (go_at_call 45; refine (HY.out w2 bm n' f _ acc' HBM.out HM2.out ?g1 ?g2 ?g3 HO2.out HB2.out).mono ?_; (case g1 => have := HI.out.2.1; have := HN.out; have := hnd2.out; omega); (case g2 => intro s; have h8 := HF.out s; have := HNS.out; have := hsub.out; omega); (case g3 => have := HI.out.2.2.1; have := HL.out; have := hnd2.out; omega); rintro e w4 ⟨v', rfl, ho, ⟨n2, hn2, hm⟩, hb4⟩; have HO4 := Aside0.mk ho; have HN4 := Aside0.mk hn2; have HM4 := Aside0.mk hm; have HB4 := Aside0.mk hb4; clear ho hn2 hm hb4 hz1 hz7)
          go_roundg (gk - 1)
          case measure => have := HI.out; have := D1.out; omega
          case rel => exact ⟨i + 1, _, n2, (by rw [← hw1.out]), ⟨by have := HI.out; have := D1.out; omega, by have := HI.out.2.1; have := HN4.out; have := hnd2.out; omega, by have h1 := freeX_len (rd_T36 x.f5 (i : Int)) f acc'; have := HI.out.2.2.1; have := hnd2.out; omega, by rw [← HI.out.2.2.2, hdr.out, freeXS, if_neg HIB.out]; rfl⟩, HO4, HM4, HB4⟩
      · have d4 : decide ((i : Int) < (x.f5.length : Int)) = false := decide_eq_false (by omega)
        have d5 : ¬ ((i : Int) < (x.f5.length : Int)) := by omega
        have hz : Aside0 (acc' = freeX x f acc ∧ n' + 2 ≤ n + 4 * ndTerm x) := ⟨by have h := HI.out; rw [List.drop_of_length_le (by omega)] at h; exact ⟨h.2.2.2, by have := h.2.1; omega⟩⟩
        clear d1
        go_wp2
        go_ret
        exact ⟨_, rfl, by rw [← hz.out.1]; exact HO.out, ⟨n', hz.out.2, HM.out⟩, HB.out⟩

end Go.Proofs.Ytfidfpmgoaainaa.Px
end
section
namespace Go.Proofs.Ytfidfpmgoaainaa.Px
open Go.RowKit Go.Proofs.YtfidfpmgoaainaaW.PrintWords Go.Proofs.YtfidfpmgoaainaaW.PrintLast Go.Proofs.Ytfidfpmgoaainaa.Pl Go.Proofs.Ytfidfpmgoaainaa.Ext
set_option linter.unusedVariables false
set_option linter.unusedSimpArgs false
open Classical in
noncomputable def impl_FreeVars.f (_k : Nat) (a0_0 : Int) (a0_1 : ByteArray) (a0_2 : Int) (a0_3 : Int) (l0_4 : List ByteArray) (l0_5 : List (S33)) (l0_6 : List ByteArray) (l0_7 : List (S36)) : Option (List ByteArray) :=
  if SmTerm ⟨a0_0, a0_1, a0_2, ⟨a0_3, l0_4, l0_5⟩, l0_6, l0_7⟩ ∧ ndTerm ⟨a0_0, a0_1, a0_2, ⟨a0_3, l0_4, l0_5⟩, l0_6, l0_7⟩ ≤ 1048577 then some (freeX ⟨a0_0, a0_1, a0_2, ⟨a0_3, l0_4, l0_5⟩, l0_6, l0_7⟩ (fun _ => 0) []) else none
set_option maxHeartbeats 4000000 in
set_option maxRecDepth 100000 in
theorem impl_FreeVars.calls (k : Nat) (a0_0 : Int) (a0_1 : ByteArray) (a0_2 : Int) (a0_3 : Int) (A0_4 : Option Addr) (c0_4 : Nat) (l0_4 : List ByteArray) (A0_5 : Option Addr) (c0_5 : Nat) (l0_5 : List (S33)) (A0_6 : Option Addr) (c0_6 : Nat) (l0_6 : List ByteArray) (A0_7 : Option Addr) (c0_7 : Nat) (l0_7 : List (S36)) (r : List ByteArray) (w : World) (hr0_4 : Kd.C Kd.string w A0_4 l0_4.length l0_4) (hc0_4 : l0_4.length ≤ c0_4) (hr0_5 : Kd.C k33 w A0_5 l0_5.length l0_5) (hc0_5 : l0_5.length ≤ c0_5) (hr0_6 : Kd.C Kd.string w A0_6 l0_6.length l0_6) (hc0_6 : l0_6.length ≤ c0_6) (hr0_7 : Kd.C k36 w A0_7 l0_7.length l0_7) (hc0_7 : l0_7.length ≤ c0_7) (h : impl_FreeVars.f k a0_0 a0_1 a0_2 a0_3 l0_4 l0_5 l0_6 l0_7 = some r) :
    Calls Try.prog 13 #[.agg #[.int .i64 a0_0, .string a0_1, .int .i64 a0_2, .int .i64 a0_3, .slice A0_4 l0_4.length c0_4, .slice A0_5 l0_5.length c0_5, .slice A0_6 l0_6.length c0_6, .slice A0_7 l0_7.length c0_7]] w fun e w' => ∃ v0_ : Value, e = .returned (v0_) ∧ Kd.R Kd.string 9 w' w.heap.size (fun _ => True) v0_ r ∧ Below w.heap.size w w' := by
  unfold impl_FreeVars.f at h
  by_cases hc : SmTerm ⟨a0_0, a0_1, a0_2, ⟨a0_3, l0_4, l0_5⟩, l0_6, l0_7⟩ ∧ ndTerm ⟨a0_0, a0_1, a0_2, ⟨a0_3, l0_4, l0_5⟩, l0_6, l0_7⟩ ≤ 1048577
  · rw [if_pos hc] at h
    obtain rfl := Option.some.inj h
    have HG := Aside0.mk (freeIn_go ⟨a0_0, a0_1, a0_2, ⟨a0_3, l0_4, l0_5⟩, l0_6, l0_7⟩ hc.1)
    have HC := Aside0.mk hc.2
    have R4 := Aside0.mk (And.intro hr0_4 hc0_4); have R5 := Aside0.mk (And.intro hr0_5 hc0_5); have R6 := Aside0.mk (And.intro hr0_6 hc0_6); have R7 := Aside0.mk (And.intro hr0_7 hc0_7)
    obtain ⟨X, hX⟩ : ∃ X : S36, X = ⟨a0_0, a0_1, a0_2, ⟨a0_3, l0_4, l0_5⟩, l0_6, l0_7⟩ := ⟨_, rfl⟩
    rw [← hX] at HC ⊢
    have HX := Aside0.mk hX
    clear h hc hr0_4 hc0_4 hr0_5 hc0_5 hr0_6 hc0_6 hr0_7 hc0_7 hX
    have hu36 := Try.underlying36
    go_enter Try.func13, Try.ntmps13
    go_wp2_with (first
      | ((with_reducible refine gate_dst (N := 1) rfl ?_); refine box_event ?hg (N := 1) ?hd (cs := #[.int .i64 a0_0, .string a0_1, .int .i64 a0_2, .int .i64 a0_3, .slice A0_4 l0_4.length c0_4, .slice A0_5 l0_5.length c0_5, .slice A0_6 l0_6.length c0_6, .slice A0_7 l0_7.length c0_7]) (t := 36) ?hr ?_; (case hd => rfl); (case hg => rfl); (case hr => first | (go_simp; done) | (go_simp; rfl)); intro gb hg w1 hbox hb; have HBX := Aside0.mk hbox; have HB1 := Aside0.mk hb; clear hg hbox hb)
      | ((with_reducible refine gate_makeMap (t := 63) rfl ?_); refine Sm.smake_event rfl rfl eI 9 ?_; intro bm w2 hg him hb; have HM := Aside0.mk him; have HGB := Aside0.mk (show w1.heap.size ≤ bm by rw [hg]; exact Nat.le_refl _); have HB2 := Aside0.mk hb; clear hg him hb)
      | ((with_reducible refine gate_dst (N := 4) rfl ?_); refine Kd.R_lit Kd.string (w0 := w1) w1.heap.size 9 ?hg (N := 4) ?hd (xs := ([] : List ByteArray)) (inner := []) (ok := fun k => k ≠ bm) (okp := fun k => k ≠ bm) ?hr ?hp (fun _ hk => hk) (by have := HM.out.lt; omega) HB2.out (below_size HB2.out) (by simp) ?_; (case hd => rfl); (case hg => rfl); (case hr => first | (go_simp; done) | (go_simp; rfl)); (case hp => exact (Reps.none _ _)); intro v3 w3 ho hb hg_ hnew_; have HO := Aside0.mk ho; have HB3 := Aside0.mk hb; have HM3 := Aside0.mk (HM.out.kept hg_ (by simp)); clear ho hb hg_ hnew_)
      | (go_at_call 45
         refine (HG.out ⟨gb, 0, none⟩ A0_4 c0_4 A0_5 c0_5 A0_6 c0_6 A0_7 c0_7 w1 w3 bm 0 (fun _ => 0) v3 [] (Cells_blk HBX.out) (Kd.C_below R4.out.1 HB1.out) R4.out.2 (Kd.C_below R5.out.1 HB1.out) R5.out.2 (Kd.C_below R6.out.1 HB1.out) R6.out.2 (Kd.C_below R7.out.1 HB1.out) R7.out.2 HGB.out HM3.out ?g1 ?g2 ?g3 HO.out HB3.out).mono ?_
         (case g1 => have := HC.out; rw [HX.out] at this; omega)
         (case g2 => intro s; have := HC.out; rw [HX.out] at this; omega)
         (case g3 => have := HC.out; rw [HX.out] at this; rw [List.length_nil]; omega)
         rintro e w4 ⟨v', rfl, ho, _, hb⟩
         rw [← HX.out] at ho
         have HO4 := Aside0.mk (Kd.R_lower (Kd.R_mono (ok' := fun _ => True) ho (fun _ _ => trivial)) (below_size HB1.out))
         have HB4 := Aside0.mk (below_step HB1.out hb)
         clear ho hb))
    go_ret
    exact ⟨_, rfl, HO4.out, HB4.out⟩
  · rw [if_neg hc] at h
    cases h
noncomputable def impl_IsClosed.f (k : Nat) (a0_0 : Int) (a0_1 : ByteArray) (a0_2 : Int) (a0_3 : Int) (l0_4 : List ByteArray) (l0_5 : List (S33)) (l0_6 : List ByteArray) (l0_7 : List (S36)) : Option Bool := (impl_FreeVars.f k a0_0 a0_1 a0_2 a0_3 l0_4 l0_5 l0_6 l0_7).map (fun l => (l.length : Int) == 0)
set_option maxHeartbeats 4000000 in
set_option maxRecDepth 100000 in
theorem impl_IsClosed.calls (k : Nat) (a0_0 : Int) (a0_1 : ByteArray) (a0_2 : Int) (a0_3 : Int) (A0_4 : Option Addr) (c0_4 : Nat) (l0_4 : List ByteArray) (A0_5 : Option Addr) (c0_5 : Nat) (l0_5 : List (S33)) (A0_6 : Option Addr) (c0_6 : Nat) (l0_6 : List ByteArray) (A0_7 : Option Addr) (c0_7 : Nat) (l0_7 : List (S36)) (r : Bool) (w : World) (hr0_4 : Kd.C Kd.string w A0_4 l0_4.length l0_4) (hc0_4 : l0_4.length ≤ c0_4) (hr0_5 : Kd.C k33 w A0_5 l0_5.length l0_5) (hc0_5 : l0_5.length ≤ c0_5) (hr0_6 : Kd.C Kd.string w A0_6 l0_6.length l0_6) (hc0_6 : l0_6.length ≤ c0_6) (hr0_7 : Kd.C k36 w A0_7 l0_7.length l0_7) (hc0_7 : l0_7.length ≤ c0_7) (h : impl_IsClosed.f k a0_0 a0_1 a0_2 a0_3 l0_4 l0_5 l0_6 l0_7 = some r) :
    Calls Try.prog 10 #[.agg #[.int .i64 a0_0, .string a0_1, .int .i64 a0_2, .int .i64 a0_3, .slice A0_4 l0_4.length c0_4, .slice A0_5 l0_5.length c0_5, .slice A0_6 l0_6.length c0_6, .slice A0_7 l0_7.length c0_7]] w fun e w' => e = .returned (.bool r) ∧ Below w.heap.size w w' := by
  unfold impl_IsClosed.f at h
  obtain ⟨l, hl, hr⟩ := Option.map_eq_some_iff.1 h
  have HL := Aside0.mk hl
  have HR := Aside0.mk hr
  have R4 := Aside0.mk (And.intro hr0_4 hc0_4); have R5 := Aside0.mk (And.intro hr0_5 hc0_5); have R6 := Aside0.mk (And.intro hr0_6 hc0_6); have R7 := Aside0.mk (And.intro hr0_7 hc0_7)
  clear h hr hl hr0_4 hc0_4 hr0_5 hc0_5 hr0_6 hc0_6 hr0_7 hc0_7
  have hu36 := Try.underlying36
  go_enter Try.func10, Try.ntmps10
  go_wp2_with (first
    | ((with_reducible refine gate_dst (N := 1) rfl ?_); refine box_event ?hg (N := 1) ?hd (cs := #[.int .i64 a0_0, .string a0_1, .int .i64 a0_2, .int .i64 a0_3, .slice A0_4 l0_4.length c0_4, .slice A0_5 l0_5.length c0_5, .slice A0_6 l0_6.length c0_6, .slice A0_7 l0_7.length c0_7]) (t := 36) ?hr ?_; (case hd => rfl); (case hg => rfl); (case hr => first | (go_simp; done) | (go_simp; rfl)); intro gb hg w1 hbox hb; have hx0 := (blk_cell hbox 0).trans rfl; have hx1 := (blk_cell hbox 1).trans rfl; have hx2 := (blk_cell hbox 2).trans rfl; have hx3 := (blk_cell hbox 3).trans rfl; have hx4 := (blk_cell hbox 4).trans rfl; have hx5 := (blk_cell hbox 5).trans rfl; have hx6 := (blk_cell hbox 6).trans rfl; have hx7 := (blk_cell hbox 7).trans rfl; have HB1 := Aside0.mk hb; clear hg hbox hb)
    | (go_at_call 13
       refine (impl_FreeVars.calls k a0_0 a0_1 a0_2 a0_3 A0_4 c0_4 l0_4 A0_5 c0_5 l0_5 A0_6 c0_6 l0_6 A0_7 c0_7 l0_7 l w1 (Kd.C_below R4.out.1 HB1.out) R4.out.2 (Kd.C_below R5.out.1 HB1.out) R5.out.2 (Kd.C_below R6.out.1 HB1.out) R6.out.2 (Kd.C_below R7.out.1 HB1.out) R7.out.2 HL.out).mono ?_
       rintro e w4 ⟨v', rfl, ho, hb⟩
       obtain ⟨Av, cv, ev⟩ := Kd.R_slice ho
       subst ev
       have HB4 := Aside0.mk (below_step HB1.out hb)
       clear ho hb hx0 hx1 hx2 hx3 hx4 hx5 hx6 hx7))
  go_ret
  exact ⟨by rw [← HR.out]; rfl, HB4.out⟩

end Go.Proofs.Ytfidfpmgoaainaa.Px
end
section
namespace Go.Proofs.Ytfidfpmgoaainaa.Px
open Go.RowKit Go.Proofs.YtfidfpmgoaainaaW.PrintWords Go.Proofs.YtfidfpmgoaainaaW.PrintLast Go.Proofs.Ytfidfpmgoaainaa.Pl Go.Proofs.Ytfidfpmgoaainaa.Ext
set_option linter.unusedVariables false
set_option linter.unusedSimpArgs false
theorem uni_step_t {acc : List ByteArray} {s : ByteArray} (r : List ByteArray) (h : hasB acc s = true) : uni acc (s :: r) = uni acc r := by rw [uni, if_pos h]
theorem uni_step_f {acc : List ByteArray} {s : ByteArray} (r : List ByteArray) (h : ¬ hasB acc s = true) : uni acc (s :: r) = uni (acc ++ [s]) r := by rw [uni, if_neg h]
theorem uni_sub : ∀ (l acc : List ByteArray) (s : ByteArray), s ∈ acc → s ∈ uni acc l
  | [], _, _, h => h
  | t :: r, acc, s, h => by
    by_cases c : hasB acc t = true
    · rw [uni_step_t r c]; exact uni_sub r acc s h
    · rw [uni_step_f r c]; exact uni_sub r _ s (List.mem_append_left _ h)
theorem uni_uni : ∀ (l acc out : List ByteArray), uni out (uni acc l) = uni (uni out acc) l
  | [], acc, out => rfl
  | s :: r, acc, out => by
    by_cases c : hasB acc s = true
    · have h2 : hasB (uni out acc) s = true := by
        have h := (hasB_iff acc s).1 c
        rw [hasB_iff]
        obtain ⟨a, b, e⟩ := List.append_of_mem h
        rw [e, uni_append]
        by_cases d : hasB (uni out a) s = true
        · rw [uni_step_t b d]; exact uni_sub b _ s ((hasB_iff _ _).1 d)
        · rw [uni_step_f b d]; exact uni_sub b _ s (List.mem_append_right _ (List.mem_singleton.2 rfl))
      rw [uni_step_t r c, uni_step_t r h2]
      exact uni_uni r acc out
    · have e : uni (uni out acc) (s :: r) = uni (uni out (acc ++ [s])) r := by rw [uni_append acc [s] out, ← uni_append [s] r (uni out acc)]; rfl
      rw [uni_step_f r c, e]
      exact uni_uni r _ out
theorem filter_uni (p : ByteArray → Bool) : ∀ (l acc : List ByteArray), (uni acc l).filter p = uni (acc.filter p) (l.filter p)
  | [], acc => rfl
  | s :: r, acc => by
    have hf : p s = true → (hasB (acc.filter p) s = true ↔ hasB acc s = true) := by
      intro hp
      rw [hasB_iff, hasB_iff, List.mem_filter]
      exact ⟨fun h => h.1, fun h => ⟨h, hp⟩⟩
    by_cases hp : p s = true
    · rw [List.filter_cons_of_pos hp]
      by_cases c : hasB acc s = true
      · rw [uni_step_t r c, uni_step_t _ ((hf hp).2 c)]; exact filter_uni p r acc
      · rw [uni_step_f r c, uni_step_f _ (fun h => c ((hf hp).1 h)), filter_uni p r, List.filter_append, List.filter_cons_of_pos hp, List.filter_nil]
    · rw [List.filter_cons_of_neg hp]
      by_cases c : hasB acc s = true
      · rw [uni_step_t r c]; exact filter_uni p r acc
      · rw [uni_step_f r c, filter_uni p r, List.filter_append, List.filter_cons_of_neg hp, List.filter_nil, List.append_nil]
def without (s : ByteArray) (l : List ByteArray) : List ByteArray := l.filter (fun x => decide (x ≠ s))
mutual
def sfv : S36 → List ByteArray
  | ⟨a, nm, _, _, _, xs⟩ => if a = 1 then [nm] else uni [] (sfvS xs (bindAt a xs.length) nm 0)
def sfvS : List S36 → Int → ByteArray → Int → List ByteArray
  | [], _, _, _ => []
  | x :: r, b, nm, i => (if i = b then without nm (sfv x) else sfv x) ++ sfvS r b nm (i + 1)
end
theorem sfv_eq (x : S36) : sfv x = if x.f0 = 1 then [x.f1] else uni [] (sfvS x.f5 (bindAt x.f0 x.f5.length) x.f1 0) := by
  obtain ⟨a, nm, n, t, ls, xs⟩ := x
  rw [sfv]
theorem filter_put (f : ByteArray → Int) (hf : ∀ s, 0 ≤ f s) (nm : ByteArray) (l : List ByteArray) : l.filter (fun s => decide (Sm.put f nm (f nm + 1) s = 0)) = (without nm l).filter (fun s => decide (f s = 0)) := by
  unfold without
  rw [List.filter_filter]
  refine List.filter_congr fun s _ => ?_
  unfold Sm.put
  by_cases h : s = nm
  · subst h
    have := hf s
    simp only [if_pos rfl]
    simp
    omega
  · have h' : ¬ nm = s := fun e => h e.symm
    simp [h, h']
mutual
theorem freeX_sfv : ∀ (x : S36) (f : ByteArray → Int) (acc : List ByteArray), (∀ s, 0 ≤ f s) → freeX x f acc = uni acc ((sfv x).filter (fun s => decide (f s = 0)))
  | ⟨a, nm, n, t, ls, xs⟩, f, acc, hf => by
    rw [freeX, sfv]
    by_cases h1 : a = 1
    · rw [if_pos h1, if_pos h1]
      by_cases h0 : f nm = 0
      · rw [List.filter_cons_of_pos (by simpa using h0), List.filter_nil]
        by_cases c : hasB acc nm = true
        · rw [uni_step_t [] c, if_neg (by rw [c]; intro h; cases h.2)]; rfl
        · rw [uni_step_f [] c, if_pos ⟨h0, by simpa using c⟩]; rfl
      · rw [List.filter_cons_of_neg (by simpa using h0), List.filter_nil, if_neg (fun h => h0 h.1)]; rfl
    · rw [if_neg h1, if_neg h1, freeXS_sfv xs _ nm 0 f acc hf, filter_uni, List.filter_nil, uni_uni]; rfl
theorem freeXS_sfv : ∀ (xs : List S36) (b : Int) (nm : ByteArray) (i : Int) (f : ByteArray → Int) (acc : List ByteArray), (∀ s, 0 ≤ f s) → freeXS xs b nm i f acc = uni acc ((sfvS xs b nm i).filter (fun s => decide (f s = 0)))
  | [], b, nm, i, f, acc, hf => by rw [freeXS, sfvS]; rfl
  | x :: r, b, nm, i, f, acc, hf => by
    rw [freeXS, sfvS, List.filter_append, uni_append, freeXS_sfv r b nm (i + 1) f _ hf]
    by_cases c : i = b
    · rw [if_pos c, if_pos c, freeX_sfv x _ acc (fun s => by unfold Sm.put; have := hf s; have := hf nm; split <;> omega), filter_put f hf]
    · rw [if_neg c, if_neg c, freeX_sfv x f acc hf]
end
theorem free_all (l : List ByteArray) : l.filter (fun _ => decide ((0 : Int) = 0)) = l := by rw [List.filter_eq_self]; intro a _; rfl
theorem freeX_top (x : S36) : freeX x (fun _ => 0) [] = sfv x := by
  rw [freeX_sfv x (fun _ => 0) [] (fun _ => Int.le_refl 0), free_all, sfv_eq]
  by_cases h : x.f0 = 1
  · rw [if_pos h]; rfl
  · rw [if_neg h, uni_uni]; rfl
mutual
theorem sfv_len : ∀ x : S36, (sfv x).length ≤ ndTerm x
  | ⟨a, nm, n, t, ls, xs⟩ => by
    rw [sfv, ndTerm]
    split
    · simp
    · have h1 := uni_len (sfvS xs (bindAt a xs.length) nm 0) []
      have h2 := sfvS_len xs (bindAt a xs.length) nm 0
      rw [List.length_nil] at h1
      omega
theorem sfvS_len : ∀ (xs : List S36) (b : Int) (nm : ByteArray) (i : Int), (sfvS xs b nm i).length ≤ ndTermS xs
  | [], _, _, _ => by rw [sfvS]; exact Nat.zero_le _
  | x :: r, b, nm, i => by
    have h1 := sfv_len x
    have h2 := sfvS_len r b nm (i + 1)
    have h3 : (without nm (sfv x)).length ≤ (sfv x).length := List.length_filter_le _ _
    rw [sfvS, ndTermS, List.length_append]
    split <;> omega
end
theorem uni_nil_append (acc l : List ByteArray) (h : acc.Nodup) : uni [] (acc ++ l) = uni acc l := by
  rw [uni_append]
  congr 1
  suffices g : ∀ (l out : List ByteArray), (out ++ l).Nodup → uni out l = out ++ l by simpa using g acc [] (by simpa using h)
  intro l
  induction l with
  | nil => intro out _; rw [List.append_nil]; rfl
  | cons s r ih =>
    intro out hn
    have hs : ¬ hasB out s = true := by
      rw [hasB_iff]
      intro hm
      exact (List.nodup_append.1 hn).2.2 s hm s (List.mem_cons_self ..) rfl
    rw [uni_step_f r hs, ih (out ++ [s]) (by simpa using hn)]
    simp
theorem bindsS_ev (x : S36) : Ev (fun k => spec_l11Binds.f k x.f0 x.f1 x.f2 x.f3.f0 x.f3.f1 x.f3.f2 x.f4 x.f5) (bindAt x.f0 x.f5.length) := by
  have hj : ∀ b : Bool, (b = true ↔ x.f0 = 13 ∧ x.f5.length = 1) → Ev (fun k => spec_l11Binds.j0 k b x.f0 x.f1 x.f2 x.f3.f0 x.f3.f1 x.f3.f2 x.f4 x.f5) (bindAt x.f0 x.f5.length) := by
    intro b hb
    refine Ev.up ?_
    simp only [spec_l11Binds.j0]
    by_cases h : b = true
    · have h2 := hb.1 h
      have e : bindAt x.f0 x.f5.length = 0 := by unfold bindAt; rw [if_neg (by omega), if_pos h2]
      rw [e]; exact Ev.pos h (Ev.now _)
    · have h2 : ¬ (x.f0 = 13 ∧ x.f5.length = 1) := fun q => h (hb.2 q)
      have e : bindAt x.f0 x.f5.length = if x.f0 = 10 ∧ x.f5.length = 2 then 1 else -1 := by unfold bindAt; rw [if_neg h2]
      refine Ev.neg h ?_
      by_cases h10 : x.f0 = 10
      · refine Ev.pos h10 ?_
        by_cases hl : x.f5.length = 2
        · have e2 : bindAt x.f0 x.f5.length = 1 := by rw [e, if_pos ⟨h10, hl⟩]
          rw [e2]; exact Ev.pos (by omega) (Ev.now _)
        · have e2 : bindAt x.f0 x.f5.length = -1 := by rw [e, if_neg (fun q => hl q.2)]
          rw [e2]; exact Ev.neg (by omega) (Ev.now _)
      · have e2 : bindAt x.f0 x.f5.length = -1 := by rw [e, if_neg (fun q => h10 q.1)]
        rw [e2]; exact Ev.neg h10 (Ev.now _)
  simp only [spec_l11Binds.f]
  by_cases h : x.f0 = 13
  · exact Ev.pos h (hj _ (by simp only [beq_iff_eq]; omega))
  · exact Ev.neg h (hj _ (by simp [h]))
theorem without_pos {s t : ByteArray} (r : List ByteArray) (h : t ≠ s) : without s (t :: r) = t :: without s r := by
  unfold without
  exact List.filter_cons_of_pos (by simpa using h)
theorem without_neg {s t : ByteArray} (r : List ByteArray) (h : t = s) : without s (t :: r) = without s r := by
  unfold without
  exact List.filter_cons_of_neg (by simpa using h)
theorem without_ev (l : List ByteArray) (hl : l.length ≤ 1048576) (s : ByteArray) : Ev (fun k => spec_l11Without.f k l s) (without s l) := by
  suffices h : ∀ (m i : Nat) (acc : List ByteArray), i + m = l.length → acc.length ≤ i → Ev (fun k => spec_l11Without.l0 k l s acc (i : Int)) (acc ++ without s (l.drop i)) by
    simp only [spec_l11Without.f]
    simpa using h l.length 0 [] (by omega) (Nat.le_refl _)
  intro m
  induction m with
  | zero =>
    intro i acc hi _
    refine Ev.up ?_
    simp only [spec_l11Without.l0]
    rw [List.drop_of_length_le (by omega)]
    simp only [without, List.filter_nil, List.append_nil]
    exact Ev.neg (by omega) (Ev.now _)
  | succ m ih =>
    intro i acc hi ha
    refine Ev.up ?_
    simp only [spec_l11Without.l0, w1' (show i < l.length by omega) hl]
    refine Ev.pos (by omega) (Ev.pos (by omega) ?_)
    rw [drop_at l i (by omega)]
    by_cases hc : (rdOf ByteArray.empty l (i : Int)).toList = s.toList
    · have e : l.getD i ByteArray.empty = s := by rw [rdOf_str, tl, tl] at hc; exact Sm.toList_inj hc
      refine Ev.pos hc ?_
      rw [without_neg _ e]
      exact ih (i + 1) acc (by omega) (by omega)
    · have e : l.getD i ByteArray.empty ≠ s := fun e => hc (by rw [rdOf_str, e])
      refine Ev.neg hc (Ev.pos (by omega) ?_)
      rw [without_pos _ e, rdOf_str]
      have := ih (i + 1) (acc ++ [l.getD i ByteArray.empty]) (by omega) (by simp; omega)
      rw [List.append_assoc] at this
      exact this
theorem spec_FreeVars_ev : ∀ x : S36, SmTerm x → ndTerm x ≤ 1048577 → Ev (fun k => spec_FreeVars.f k x.f0 x.f1 x.f2 x.f3.f0 x.f3.f1 x.f3.f2 x.f4 x.f5) (sfv x) := by
  refine indTermI fun x ih hs hn => ?_
  refine Ev.up ?_
  simp only [spec_FreeVars.f]
  rw [sfv_eq]
  by_cases h1 : x.f0 = 1
  · rw [if_pos h1]; exact Ev.pos h1 (Ev.now _)
  rw [if_neg h1]
  refine Ev.neg h1 ?_
  have hns : ndTerm x = 1 + ndTermS x.f5 := by rw [ndTerm_eq, ndTermS_sum]
  have hlen := hs.p5.1
  suffices h : ∀ (m i : Nat) (acc : List ByteArray), i + m = x.f5.length → acc.length + ndTermS (x.f5.drop i) ≤ 1048576 → acc.Nodup → Ev (fun k => spec_FreeVars.l0 k acc (i : Int) x.f0 x.f1 x.f2 x.f3.f0 x.f3.f1 x.f3.f2 x.f4 x.f5) (uni acc (sfvS (x.f5.drop i) (bindAt x.f0 x.f5.length) x.f1 (i : Int))) by
    simpa using h x.f5.length 0 [] (by omega) (by rw [List.drop_zero, List.length_nil]; omega) List.nodup_nil
  intro m
  induction m with
  | zero =>
    intro i acc hi _ _
    refine Ev.up ?_
    simp only [spec_FreeVars.l0]
    rw [List.drop_of_length_le (by omega), sfvS]
    exact Ev.neg (by omega) (Ev.now _)
  | succ m ihm =>
    intro i acc hi hl hd
    refine Ev.up ?_
    simp only [spec_FreeVars.l0, w1' (show i < x.f5.length by omega) hlen]
    have hmem : rd_T36 x.f5 (i : Int) ∈ x.f5 := mem_getD x.f5 z36 i (by omega)
    have hdr : x.f5.drop i = rd_T36 x.f5 (i : Int) :: x.f5.drop (i + 1) := dropT x.f5 i (by omega)
    have hsub : ndTerm (rd_T36 x.f5 (i : Int)) ≤ ndTermS x.f5 := by rw [ndTermS_sum]; exact sum_le_of_mem ndTerm hmem
    rw [hdr] at hl ⊢
    rw [ndTermS] at hl
    have hfl := sfv_len (rd_T36 x.f5 (i : Int))
    have hwl : (without x.f1 (sfv (rd_T36 x.f5 (i : Int)))).length ≤ (sfv (rd_T36 x.f5 (i : Int))).length := List.length_filter_le _ _
    refine Ev.pos (by omega) (Ev.pos (by omega) (Ev.bind (ih _ hmem (hs.p5.2 _ hmem) (by omega)) (Ev.bind (bindsS_ev x) ?_)))
    rw [sfvS]
    by_cases hb : (i : Int) = bindAt x.f0 x.f5.length
    · rw [if_pos hb, uni_append]
      refine Ev.pos hb (Ev.bind (without_ev _ (by omega) _) (Ev.bind (spec_UniteNames_ev acc _ (by omega)) ?_))
      rw [uni_nil_append _ _ hd]
      have hul := uni_len (without x.f1 (sfv (rd_T36 x.f5 (i : Int)))) acc
      exact ihm (i + 1) _ (by omega) (by omega) (uni_nodup _ _ hd)
    · rw [if_neg hb, uni_append]
      refine Ev.neg hb (Ev.bind (spec_UniteNames_ev acc _ (by omega)) ?_)
      rw [uni_nil_append _ _ hd]
      have hul := uni_len (sfv (rd_T36 x.f5 (i : Int))) acc
      exact ihm (i + 1) _ (by omega) (by omega) (uni_nodup _ _ hd)
theorem FreeVars_same (x : S36) (hs : SmTerm x) (hn : ndTerm x ≤ 1048577) : Ev (fun k => impl_FreeVars.f k x.f0 x.f1 x.f2 x.f3.f0 x.f3.f1 x.f3.f2 x.f4 x.f5) (sfv x) ∧ Ev (fun k => spec_FreeVars.f k x.f0 x.f1 x.f2 x.f3.f0 x.f3.f1 x.f3.f2 x.f4 x.f5) (sfv x) := by
  refine ⟨?_, spec_FreeVars_ev x hs hn⟩
  have : ∀ k, impl_FreeVars.f k x.f0 x.f1 x.f2 x.f3.f0 x.f3.f1 x.f3.f2 x.f4 x.f5 = some (sfv x) := by
    intro k
    unfold impl_FreeVars.f
    rw [etaTerm, if_pos ⟨hs, hn⟩, freeX_top]
  simp only [this]
  exact Ev.now _
end Go.Proofs.Ytfidfpmgoaainaa.Px
end
