/- The family Term of mirrored types: the weight of a value, its copy, and what the laws' own helpers come to. No condition. -/
import Derived.Test.YtnpjekapfolbbaaPx1
import Derived.Test.YtnpjekapfolbbaaPx2
import Derived.Test.YtnpjekapfolbbaaPx4
import Derived.Test.YtnpjekapfolbbaaPl
import Derived.Test.YtnpjekapfolbbaaPxFString
import Derived.Test.YtnpjekapfolbbaaPxFType
namespace Go.Proofs.Ytnpjekapfolbbaa.Px
open Go.RowKit Go.Proofs.YtnpjekapfolbbaaW.PrintWords Go.Proofs.Ytnpjekapfolbbaa.Pl
set_option linter.unusedVariables false
set_option linter.unusedSimpArgs false
mutual
def wtTerm : S28 → Nat
  | ⟨x0, x1, x2, x3, x4, x5⟩ => x1.size + wtType x3 + wts x4 + (x5.length + wtTermS x5)
def wtTermS : List S28 → Nat
  | [] => 0
  | x :: r => wtTerm x + wtTermS r
end
mutual
def cvTerm : S28 → S36
  | ⟨x0, x1, x2, x3, x4, x5⟩ => ⟨x0, x1, x2, (cvType x3), x4, (cvTermS x5)⟩
def cvTermS : List S28 → List S36
  | [] => []
  | x :: r => cvTerm x :: cvTermS r
end
theorem wtTermS_sum (xs : List S28) : wtTermS xs = (xs.map wtTerm).sum := by
  induction xs with
  | nil => rfl
  | cons x r ih => simp [wtTermS, ih]
theorem cvTermS_map (xs : List S28) : cvTermS xs = xs.map cvTerm := by
  induction xs with
  | nil => rfl
  | cons x r ih => simp [cvTermS, ih]
theorem wtTerm_eq (x : S28) : wtTerm x = x.f1.size + wtType x.f3 + wts x.f4 + (x.f5.length + wtTermS x.f5) := by cases x; simp only [wtTerm]
theorem cvTerm_eq (x : S28) : cvTerm x = ⟨x.f0, x.f1, x.f2, (cvType x.f3), x.f4, (cvTermS x.f5)⟩ := by cases x; simp only [cvTerm]
theorem indTermL {P : S28 → Prop} (h : ∀ x, (∀ y ∈ x.f5, P y) → P x) : ∀ x, P x
  | ⟨x0, x1, x2, x3, x4, x5⟩ => h _ (fun y hy => indTermL h y)
termination_by x => SizeOf.sizeOf x
decreasing_by
  have := List.sizeOf_lt_of_mem hy
  simp at this ⊢
  omega
theorem indTermI {P : S36 → Prop} (h : ∀ x, (∀ y ∈ x.f5, P y) → P x) : ∀ x, P x
  | ⟨x0, x1, x2, x3, x4, x5⟩ => h _ (fun y hy => indTermI h y)
termination_by x => SizeOf.sizeOf x
decreasing_by
  have := List.sizeOf_lt_of_mem hy
  simp at this ⊢
  omega
inductive SmTerm : S36 → Prop
  | mk {x : S36} : ((Lit.int .i64 x.f0).wf = true) → (x.f1.size ≤ 1048576) → ((Lit.int .i64 x.f2).wf = true) → (SmType x.f3) → ((x.f4.length ≤ 1048576 ∧ ∀ y ∈ x.f4, y.size ≤ 1048576)) → x.f5.length ≤ 1048576 → (∀ y ∈ x.f5, SmTerm y) → SmTerm x
theorem SmTerm.p0 {x : S36} (h : SmTerm x) : (Lit.int .i64 x.f0).wf = true := by cases h; assumption
theorem SmTerm.p1 {x : S36} (h : SmTerm x) : x.f1.size ≤ 1048576 := by cases h; assumption
theorem SmTerm.p2 {x : S36} (h : SmTerm x) : (Lit.int .i64 x.f2).wf = true := by cases h; assumption
theorem SmTerm.p3 {x : S36} (h : SmTerm x) : SmType x.f3 := by cases h; assumption
theorem SmTerm.p4 {x : S36} (h : SmTerm x) : (x.f4.length ≤ 1048576 ∧ ∀ y ∈ x.f4, y.size ≤ 1048576) := by cases h; assumption
theorem SmTerm.p5 {x : S36} (h : SmTerm x) : x.f5.length ≤ 1048576 ∧ ∀ y ∈ x.f5, SmTerm y := by cases h; constructor <;> assumption
theorem etaTerm (x : S36) : (⟨x.f0, x.f1, x.f2, (⟨x.f3.f0, x.f3.f1, x.f3.f2⟩ : S33), x.f4, x.f5⟩ : S36) = x := by obtain ⟨_, _, _, ⟨_, _, _⟩, _, _⟩ := x; rfl
mutual
def ndTerm : S36 → Nat
  | ⟨x0, x1, x2, x3, x4, x5⟩ => 1 + ndTermS x5
def ndTermS : List S36 → Nat
  | [] => 0
  | x :: r => ndTerm x + ndTermS r
end
theorem ndTermS_sum (xs : List S36) : ndTermS xs = (xs.map ndTerm).sum := by
  induction xs with
  | nil => rfl
  | cons x r ih => simp [ndTermS, ih]
theorem ndTerm_eq (x : S36) : ndTerm x = 1 + (x.f5.map ndTerm).sum := by cases x; simp only [ndTerm, ndTermS_sum]
theorem ndTerm_cv : ∀ x : S28, ndTerm (cvTerm x) ≤ wtTerm x + 1 := by
  refine indTermL fun x ih => ?_
  rw [ndTerm_eq, cvTerm_eq, wtTerm_eq]
  have hL : ∀ l : List S28, (∀ y ∈ l, ndTerm (cvTerm y) ≤ wtTerm y + 1) → ((l.map cvTerm).map ndTerm).sum ≤ l.length + (l.map wtTerm).sum := by
    intro l
    induction l with
    | nil => intro _; simp
    | cons y r ih2 =>
      intro h
      have h1 := h y (List.mem_cons_self ..)
      have h2 := ih2 (fun z hz => h z (List.mem_cons_of_mem _ hz))
      simp only [List.map_cons, List.sum_cons, List.length_cons] at h2 ⊢
      omega
  have := hL x.f5 ih
  (try dsimp only)
  rw [cvTermS_map, wtTermS_sum]
  omega
theorem smTerm_of : ∀ x : S28, W28 x → wtTerm x ≤ 1048576 → SmTerm (cvTerm x) := by
  refine indTermL fun x ih hw hw2 => ?_
  have hb := hw2
  rw [wtTerm_eq] at hb
  rw [cvTerm_eq]
  exact SmTerm.mk (hw.p0) (by (try dsimp only); omega) (hw.p2) (smType_of _ hw.p3 (by omega)) (⟨by (try dsimp only); unfold wts at hb; omega, fun y hy => by (try dsimp only at hy); have := sum_le_of_mem ByteArray.size hy; unfold wts szs at hb; omega⟩) (by (try dsimp only); rw [cvTermS_map, List.length_map]; omega) (fun z hz => by
      (try dsimp only at hz)
      rw [cvTermS_map] at hz
      obtain ⟨y, hy, rfl⟩ := List.mem_map.1 hz
      exact ih y hy (hw.p5.2 y hy) (by have := sum_le_of_mem wtTerm hy; rw [← wtTermS_sum] at this; omega))
theorem szTermS_of (xs : List S28) (hx : xs.length ≤ maxLen) (h : ∀ y ∈ xs, ∀ left : Int, 0 ≤ left → left ≤ 1048576 → Ev (fun k => laws_szTerm.f k (y.f0) (y.f1) (y.f2) (y.f3.f0) (y.f3.f1) (y.f3.f2) (y.f4) (y.f5) left) (cut (wtTerm y) left)) (left : Int) (h0 : 0 ≤ left) (hl : left ≤ 1048576) : Ev (fun k => laws_szTermS.f k xs left) (cut (xs.length + wtTermS xs) left) := by
  refine Ev.up ?_
  simp only [laws_szTermS.f]
  have hs := cut_sub (n := xs.length) h0 hl hx
  by_cases hc : cut xs.length left < 0
  · exact Ev.pos (hs.1.2 hc) (Ev.const (cut_add' hc).symm)
  · refine Ev.neg (fun h => hc (hs.1.1 h)) ?_
    rw [hs.2 (by omega)]
    have hl2 := cut_le (n := xs.length) h0
    have hw := sz_loop xs.length (fun k i left => laws_szTerm.f k ((rd_T28 xs (i : Int)).f0) ((rd_T28 xs (i : Int)).f1) ((rd_T28 xs (i : Int)).f2) ((rd_T28 xs (i : Int)).f3.f0) ((rd_T28 xs (i : Int)).f3.f1) ((rd_T28 xs (i : Int)).f3.f2) ((rd_T28 xs (i : Int)).f4) ((rd_T28 xs (i : Int)).f5) left) (fun k left i => laws_szTermS.l0 k xs left (i : Int)) (fun i => wtTerm (xs.getD i z28)) (fun k left i hi => by
      simp only [laws_szTermS.l0]
      rw [if_pos (by omega), if_pos (by omega), w1 hi hx]) (fun k left => by simp only [laws_szTermS.l0]; rw [if_neg (by omega)]) (fun i left hi h0 hl => h _ (mem_getD xs z28 i hi) left h0 hl) xs.length 0 _ (by omega) (show 0 ≤ cut xs.length left by omega) (by omega)
    refine Ev.eq hw ?_
    rw [cut_add (by omega), sumF_list wtTerm z28 xs xs.length 0 (by omega), wtTermS_sum]
    rfl
theorem szTerm_ev : ∀ x : S28, W28 x → ∀ left : Int, 0 ≤ left → left ≤ 1048576 → Ev (fun k => laws_szTerm.f k (x.f0) (x.f1) (x.f2) (x.f3.f0) (x.f3.f1) (x.f3.f2) (x.f4) (x.f5) left) (cut (wtTerm x) left) := by
  refine indTermL fun x ih hw left h0 hl => ?_
  refine Ev.up ?_
  simp only [laws_szTerm.f]
  rw [wtTerm_eq]
  have hb0 : (0 : Int) ≤ left ∧ left ≤ 1048576 := ⟨h0, hl⟩
  have hs0 := cut_sub (n := x.f1.size) hb0.1 hb0.2 (hw.p1)
  by_cases hc0 : cut (x.f1.size) left < 0
  · refine Ev.pos (hs0.1.2 hc0) (Ev.const ?_)
    have hn : cut (x.f1.size) left < 0 := hc0
    have hn : cut (x.f1.size + wtType x.f3) left < 0 := by rw [cut_add' hn]; omega
    have hn : cut (x.f1.size + wtType x.f3 + wts x.f4) left < 0 := by rw [cut_add' hn]; omega
    have hn : cut (x.f1.size + wtType x.f3 + wts x.f4 + (x.f5.length + wtTermS x.f5)) left < 0 := by rw [cut_add' hn]; omega
    have hv := cut_neg.1 hn; unfold cut; rw [if_neg hv]
  refine Ev.neg (fun h => hc0 (hs0.1.1 h)) ?_
  rw [hs0.2 (by omega)]
  have hb1 : (0 : Int) ≤ cut (x.f1.size) left ∧ cut (x.f1.size) left ≤ 1048576 := ⟨by omega, by have := cut_le (n := x.f1.size) h0; omega⟩
  refine Ev.bind (szType_ev x.f3 hw.p3 _ hb1.1 hb1.2) ?_
  by_cases hc1 : cut (wtType x.f3) (cut (x.f1.size) left) < 0
  · refine Ev.pos hc1 (Ev.const ?_)
    have hn : cut (x.f1.size + wtType x.f3) left < 0 := by rw [← cut_add (by omega)]; exact hc1
    have hn : cut (x.f1.size + wtType x.f3 + wts x.f4) left < 0 := by rw [cut_add' hn]; omega
    have hn : cut (x.f1.size + wtType x.f3 + wts x.f4 + (x.f5.length + wtTermS x.f5)) left < 0 := by rw [cut_add' hn]; omega
    have hv := cut_neg.1 hn; unfold cut; rw [if_neg hv]
  refine Ev.neg hc1 ?_
  rw [cut_add (by omega)] at hc1 ⊢
  have hb2 : (0 : Int) ≤ cut (x.f1.size + wtType x.f3) left ∧ cut (x.f1.size + wtType x.f3) left ≤ 1048576 := ⟨by omega, by have := cut_le (n := x.f1.size + wtType x.f3) h0; omega⟩
  refine Ev.bind (szStringS_ev x.f4 hw.p4 _ hb2.1 hb2.2) ?_
  by_cases hc2 : cut (wts x.f4) (cut (x.f1.size + wtType x.f3) left) < 0
  · refine Ev.pos hc2 (Ev.const ?_)
    have hn : cut (x.f1.size + wtType x.f3 + wts x.f4) left < 0 := by rw [← cut_add (by omega)]; exact hc2
    have hn : cut (x.f1.size + wtType x.f3 + wts x.f4 + (x.f5.length + wtTermS x.f5)) left < 0 := by rw [cut_add' hn]; omega
    have hv := cut_neg.1 hn; unfold cut; rw [if_neg hv]
  refine Ev.neg hc2 ?_
  rw [cut_add (by omega)] at hc2 ⊢
  have hb3 : (0 : Int) ≤ cut (x.f1.size + wtType x.f3 + wts x.f4) left ∧ cut (x.f1.size + wtType x.f3 + wts x.f4) left ≤ 1048576 := ⟨by omega, by have := cut_le (n := x.f1.size + wtType x.f3 + wts x.f4) h0; omega⟩
  refine Ev.bind (szTermS_of x.f5 hw.p5.1 (fun y hy => ih y hy (hw.p5.2 y hy)) _ hb3.1 hb3.2) ?_
  by_cases hc3 : cut ((x.f5.length + wtTermS x.f5)) (cut (x.f1.size + wtType x.f3 + wts x.f4) left) < 0
  · refine Ev.pos hc3 (Ev.const ?_)
    have hn : cut (x.f1.size + wtType x.f3 + wts x.f4 + (x.f5.length + wtTermS x.f5)) left < 0 := by rw [← cut_add (by omega)]; exact hc3
    have hv := cut_neg.1 hn; unfold cut; rw [if_neg hv]
  refine Ev.neg hc3 ?_
  rw [cut_add (by omega)] at hc3 ⊢
  have hb4 : (0 : Int) ≤ cut (x.f1.size + wtType x.f3 + wts x.f4 + (x.f5.length + wtTermS x.f5)) left ∧ cut (x.f1.size + wtType x.f3 + wts x.f4 + (x.f5.length + wtTermS x.f5)) left ≤ 1048576 := ⟨by omega, by have := cut_le (n := x.f1.size + wtType x.f3 + wts x.f4 + (x.f5.length + wtTermS x.f5)) h0; omega⟩
  exact Ev.const rfl
theorem toTermS_of (xs : List S28) (hx : xs.length ≤ 1048576) (h : ∀ y ∈ xs, Ev (fun k => laws_toTerm.f k (y.f0) (y.f1) (y.f2) (y.f3.f0) (y.f3.f1) (y.f3.f2) (y.f4) (y.f5)) ((cvTerm y).f0, (cvTerm y).f1, (cvTerm y).f2, (cvTerm y).f3.f0, (cvTerm y).f3.f1, (cvTerm y).f3.f2, (cvTerm y).f4, (cvTerm y).f5)) : Ev (fun k => laws_toTermS.f k xs) (cvTermS xs) := by
  refine Ev.up ?_
  simp only [laws_toTermS.f]
  refine Ev.pos (by omega) (Ev.pos (by omega) ?_)
  have hw := to_loop xs.length (fun k i => (laws_toTerm.f k ((rd_T28 xs (i : Int)).f0) ((rd_T28 xs (i : Int)).f1) ((rd_T28 xs (i : Int)).f2) ((rd_T28 xs (i : Int)).f3.f0) ((rd_T28 xs (i : Int)).f3.f1) ((rd_T28 xs (i : Int)).f3.f2) ((rd_T28 xs (i : Int)).f4) ((rd_T28 xs (i : Int)).f5)).map fun t => (⟨t.1, t.2.1, t.2.2.1, (⟨t.2.2.2.1, t.2.2.2.2.1, t.2.2.2.2.2.1⟩ : S33), t.2.2.2.2.2.2.1, t.2.2.2.2.2.2.2⟩ : S36)) (fun k out i => laws_toTermS.l0 k xs out (i : Int)) (fun i => cvTerm (xs.getD i z28)) (fun k out i hi hl => by
    simp only [laws_toTermS.l0]
    rw [if_pos (by omega), if_pos (by omega)]
    rcases laws_toTerm.f k ((rd_T28 xs (i : Int)).f0) ((rd_T28 xs (i : Int)).f1) ((rd_T28 xs (i : Int)).f2) ((rd_T28 xs (i : Int)).f3.f0) ((rd_T28 xs (i : Int)).f3.f1) ((rd_T28 xs (i : Int)).f3.f2) ((rd_T28 xs (i : Int)).f4) ((rd_T28 xs (i : Int)).f5) with _ | t
    · rfl
    · simp only [Option.map_some, Option.bind_some]
      rw [if_pos (by omega), w1' hi hx]
      rfl) (fun k out => by simp only [laws_toTermS.l0]; rw [if_neg (by omega)]) (fun i hi => Ev.eq (Ev.map (fun t => (⟨t.1, t.2.1, t.2.2.1, (⟨t.2.2.2.1, t.2.2.2.2.1, t.2.2.2.2.2.1⟩ : S33), t.2.2.2.2.2.2.1, t.2.2.2.2.2.2.2⟩ : S36)) (h _ (mem_getD xs z28 i hi))) (etaTerm _)) xs.length 0 (List.replicate ((xs.length : Int)).toNat z36) (by omega) (by simp)
  refine Ev.eq hw ?_
  rw [List.take_zero, List.nil_append, range_map_getElem cvTerm z28 xs, cvTermS_map]
theorem toTerm_ev : ∀ x : S28, wtTerm x ≤ 1048576 → Ev (fun k => laws_toTerm.f k (x.f0) (x.f1) (x.f2) (x.f3.f0) (x.f3.f1) (x.f3.f2) (x.f4) (x.f5)) ((cvTerm x).f0, (cvTerm x).f1, (cvTerm x).f2, (cvTerm x).f3.f0, (cvTerm x).f3.f1, (cvTerm x).f3.f2, (cvTerm x).f4, (cvTerm x).f5) := by
  refine indTermL fun x ih hw2 => ?_
  refine Ev.up ?_
  simp only [laws_toTerm.f]
  have hb := hw2
  rw [wtTerm_eq] at hb
  refine Ev.bind (toType_ev x.f3 (by omega)) ?_
  refine Ev.bind (toStringS_ev x.f4 (by unfold wts at hb; omega)) ?_
  refine Ev.bind (toTermS_of x.f5 (by omega) (fun y hy => ih y hy (by have := sum_le_of_mem wtTerm hy; rw [← wtTermS_sum] at this; omega))) ?_
  exact Ev.const (by rw [cvTerm_eq])
theorem eqTermS_of (xs : List S36) (hx : xs.length ≤ 1048576) (h : ∀ y ∈ xs, Ev (fun k => laws_eqTerm.f k (y.f0) (y.f1) (y.f2) (y.f3.f0) (y.f3.f1) (y.f3.f2) (y.f4) (y.f5) (y.f0) (y.f1) (y.f2) (y.f3.f0) (y.f3.f1) (y.f3.f2) (y.f4) (y.f5)) true) : Ev (fun k => laws_eqTermS.f k xs xs) true := by
  refine Ev.up ?_
  simp only [laws_eqTermS.f]
  refine Ev.pos (by simp) ?_
  exact eq_loop xs.length (fun k i => laws_eqTerm.f k ((rd_T36 xs (i : Int)).f0) ((rd_T36 xs (i : Int)).f1) ((rd_T36 xs (i : Int)).f2) ((rd_T36 xs (i : Int)).f3.f0) ((rd_T36 xs (i : Int)).f3.f1) ((rd_T36 xs (i : Int)).f3.f2) ((rd_T36 xs (i : Int)).f4) ((rd_T36 xs (i : Int)).f5) ((rd_T36 xs (i : Int)).f0) ((rd_T36 xs (i : Int)).f1) ((rd_T36 xs (i : Int)).f2) ((rd_T36 xs (i : Int)).f3.f0) ((rd_T36 xs (i : Int)).f3.f1) ((rd_T36 xs (i : Int)).f3.f2) ((rd_T36 xs (i : Int)).f4) ((rd_T36 xs (i : Int)).f5)) (fun k i => laws_eqTermS.l0 k xs xs (i : Int)) (fun k i hi => by
    simp only [laws_eqTermS.l0]
    rw [if_pos (by omega), if_pos (by omega), if_pos (by omega), w1' hi hx]) (fun k => by simp only [laws_eqTermS.l0]; rw [if_neg (by omega)]) (fun i hi => h _ (mem_getD xs z36 i hi)) xs.length 0 (by omega)
theorem eqTerm_ev : ∀ x : S36, SmTerm x → Ev (fun k => laws_eqTerm.f k (x.f0) (x.f1) (x.f2) (x.f3.f0) (x.f3.f1) (x.f3.f2) (x.f4) (x.f5) (x.f0) (x.f1) (x.f2) (x.f3.f0) (x.f3.f1) (x.f3.f2) (x.f4) (x.f5)) true := by
  refine indTermI fun x ih hs => ?_
  refine Ev.up ?_
  simp only [laws_eqTerm.f]
  refine Ev.pos (by simp) ?_
  refine Ev.pos (by simp) ?_
  refine Ev.pos (by simp) ?_
  refine Ev.bind (eqType_ev x.f3 hs.p3) (Ev.pos (by simp) ?_)
  refine Ev.bind (eqStringS_ev x.f4 hs.p4.1) (Ev.pos (by simp) ?_)
  refine Ev.bind (eqTermS_of x.f5 hs.p5.1 (fun y hy => ih y hy (hs.p5.2 y hy))) (Ev.pos (by simp) ?_)
  exact Ev.now _
end Go.Proofs.Ytnpjekapfolbbaa.Px
