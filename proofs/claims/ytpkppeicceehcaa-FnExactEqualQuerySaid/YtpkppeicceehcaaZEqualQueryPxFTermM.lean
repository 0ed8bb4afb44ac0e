/- The family Term of mirrored types: the weight of a value, its copy, and what the laws' own helpers come to. No condition. -/
import Derived.Test.YtpkppeicceehcaaZEqualQuerySh
import Derived.Test.YtpkppeicceehcaaZEqualQueryPx8M
import Derived.Test.YtpkppeicceehcaaZEqualQueryPx2M
import Derived.Test.YtpkppeicceehcaaZEqualQueryPx6
import Derived.Test.YtpkppeicceehcaaZEqualQueryPx19M
import Derived.Test.YtpkppeicceehcaaZEqualQueryPx0
import Derived.Test.YtpkppeicceehcaaZEqualQueryPx1M
import Derived.Test.YtpkppeicceehcaaZEqualQueryPx16M
import Derived.Test.YtpkppeicceehcaaZEqualQueryWLastM
import Derived.Test.YtpkppeicceehcaaZEqualQueryPx5
import Derived.Test.YtpkppeicceehcaaZEqualQueryPx15
import Derived.Test.YtpkppeicceehcaaZEqualQueryPx18
import Derived.Test.YtpkppeicceehcaaZEqualQueryPx11
import Derived.Test.YtpkppeicceehcaaZEqualQueryPx4
import Derived.Test.YtpkppeicceehcaaZEqualQueryPx7
import Derived.Test.YtpkppeicceehcaaZEqualQueryWWords
import Derived.Deep.Slices
import Derived.ChangeArms
import Derived.DataReads
section
namespace Go.Proofs.Ytpkppeicceehcaa.Px
open Go.RowKit Go.Proofs.YtpkppeicceehcaaW.PrintWords Go.Proofs.Ytpkppeicceehcaa.Pl
set_option linter.unusedVariables false
set_option linter.unusedSimpArgs false
mutual
def wtTerm : S68 → Nat
  | ⟨x0, x1, x2, x3, x4, x5⟩ => x1.size + wtType x3 + wts x4 + (x5.length + wtTermS x5)
def wtTermS : List S68 → Nat
  | [] => 0
  | x :: r => wtTerm x + wtTermS r
end
mutual
def cvTerm : S68 → S44
  | ⟨x0, x1, x2, x3, x4, x5⟩ => ⟨x0, x1, x2, (cvType x3), x4, (cvTermS x5)⟩
def cvTermS : List S68 → List S44
  | [] => []
  | x :: r => cvTerm x :: cvTermS r
end
theorem wtTermS_sum (xs : List S68) : wtTermS xs = (xs.map wtTerm).sum := by
  induction xs with
  | nil => rfl
  | cons x r ih => simp [wtTermS, ih]
theorem cvTermS_map (xs : List S68) : cvTermS xs = xs.map cvTerm := by
  induction xs with
  | nil => rfl
  | cons x r ih => simp [cvTermS, ih]
theorem wtTerm_eq (x : S68) : wtTerm x = x.f1.size + wtType x.f3 + wts x.f4 + (x.f5.length + wtTermS x.f5) := by cases x; simp only [wtTerm]
theorem cvTerm_eq (x : S68) : cvTerm x = ⟨x.f0, x.f1, x.f2, (cvType x.f3), x.f4, (cvTermS x.f5)⟩ := by cases x; simp only [cvTerm]
theorem indTermL {P : S68 → Prop} (h : ∀ x, (∀ y ∈ x.f5, P y) → P x) : ∀ x, P x
  | ⟨x0, x1, x2, x3, x4, x5⟩ => h _ (fun y hy => indTermL h y)
termination_by x => SizeOf.sizeOf x
decreasing_by
  have := List.sizeOf_lt_of_mem hy
  simp at this ⊢
  omega
theorem indTermI {P : S44 → Prop} (h : ∀ x, (∀ y ∈ x.f5, P y) → P x) : ∀ x, P x
  | ⟨x0, x1, x2, x3, x4, x5⟩ => h _ (fun y hy => indTermI h y)
termination_by x => SizeOf.sizeOf x
decreasing_by
  have := List.sizeOf_lt_of_mem hy
  simp at this ⊢
  omega
inductive SmTerm : S44 → Prop
  | mk {x : S44} : ((Lit.int .i64 x.f0).wf = true) → (x.f1.size ≤ 1048576) → ((Lit.int .i64 x.f2).wf = true) → (SmType x.f3) → ((x.f4.length ≤ 1048576 ∧ ∀ y ∈ x.f4, y.size ≤ 1048576)) → x.f5.length ≤ 1048576 → (∀ y ∈ x.f5, SmTerm y) → SmTerm x
theorem SmTerm.p0 {x : S44} (h : SmTerm x) : (Lit.int .i64 x.f0).wf = true := by cases h; assumption
theorem SmTerm.p1 {x : S44} (h : SmTerm x) : x.f1.size ≤ 1048576 := by cases h; assumption
theorem SmTerm.p2 {x : S44} (h : SmTerm x) : (Lit.int .i64 x.f2).wf = true := by cases h; assumption
theorem SmTerm.p3 {x : S44} (h : SmTerm x) : SmType x.f3 := by cases h; assumption
theorem SmTerm.p4 {x : S44} (h : SmTerm x) : (x.f4.length ≤ 1048576 ∧ ∀ y ∈ x.f4, y.size ≤ 1048576) := by cases h; assumption
theorem SmTerm.p5 {x : S44} (h : SmTerm x) : x.f5.length ≤ 1048576 ∧ ∀ y ∈ x.f5, SmTerm y := by cases h; constructor <;> assumption
theorem etaTerm (x : S44) : (⟨x.f0, x.f1, x.f2, (⟨x.f3.f0, x.f3.f1, x.f3.f2⟩ : S41), x.f4, x.f5⟩ : S44) = x := by obtain ⟨_, _, _, ⟨_, _, _⟩, _, _⟩ := x; rfl
theorem smTerm_of : ∀ x : S68, W68 x → wtTerm x ≤ 1048576 → SmTerm (cvTerm x) := by
  refine indTermL fun x ih hw hw2 => ?_
  have hb := hw2
  rw [wtTerm_eq] at hb
  rw [cvTerm_eq]
  exact SmTerm.mk (hw.p0) (by (try dsimp only); omega) (hw.p2) (smType_of _ hw.p3 (by omega)) (⟨by (try dsimp only); unfold wts at hb; omega, fun y hy => by (try dsimp only at hy); have := sum_le_of_mem ByteArray.size hy; unfold wts szs at hb; omega⟩) (by (try dsimp only); rw [cvTermS_map, List.length_map]; omega) (fun z hz => by
      (try dsimp only at hz)
      rw [cvTermS_map] at hz
      obtain ⟨y, hy, rfl⟩ := List.mem_map.1 hz
      exact ih y hy (hw.p5.2 y hy) (by have := sum_le_of_mem wtTerm hy; rw [← wtTermS_sum] at this; omega))
theorem szTermS_of (xs : List S68) (hx : xs.length ≤ maxLen) (h : ∀ y ∈ xs, ∀ left : Int, 0 ≤ left → left ≤ 1048576 → Ev (fun k => laws_szTerm.f k (y.f0) (y.f1) (y.f2) (y.f3.f0) (y.f3.f1) (y.f3.f2) (y.f4) (y.f5) left) (cut (wtTerm y) left)) (left : Int) (h0 : 0 ≤ left) (hl : left ≤ 1048576) : Ev (fun k => laws_szTermS.f k xs left) (cut (xs.length + wtTermS xs) left) := by
  refine Ev.up ?_
  simp only [laws_szTermS.f]
  have hs := cut_sub (n := xs.length) h0 hl hx
  by_cases hc : cut xs.length left < 0
  · exact Ev.pos (hs.1.2 hc) (Ev.const (cut_add' hc).symm)
  · refine Ev.neg (fun h => hc (hs.1.1 h)) ?_
    rw [hs.2 (by omega)]
    have hl2 := cut_le (n := xs.length) h0
    have hw := sz_loop xs.length (fun k i left => laws_szTerm.f k ((rd_T68 xs (i : Int)).f0) ((rd_T68 xs (i : Int)).f1) ((rd_T68 xs (i : Int)).f2) ((rd_T68 xs (i : Int)).f3.f0) ((rd_T68 xs (i : Int)).f3.f1) ((rd_T68 xs (i : Int)).f3.f2) ((rd_T68 xs (i : Int)).f4) ((rd_T68 xs (i : Int)).f5) left) (fun k left i => laws_szTermS.l0 k xs left (i : Int)) (fun i => wtTerm (xs.getD i z68)) (fun k left i hi => by
      simp only [laws_szTermS.l0]
      rw [if_pos (by omega), if_pos (by omega), w1 hi hx]) (fun k left => by simp only [laws_szTermS.l0]; rw [if_neg (by omega)]) (fun i left hi h0 hl => h _ (mem_getD xs z68 i hi) left h0 hl) xs.length 0 _ (by omega) (show 0 ≤ cut xs.length left by omega) (by omega)
    refine Ev.eq hw ?_
    rw [cut_add (by omega), sumF_list wtTerm z68 xs xs.length 0 (by omega), wtTermS_sum]
    rfl
theorem szTerm_ev : ∀ x : S68, W68 x → ∀ left : Int, 0 ≤ left → left ≤ 1048576 → Ev (fun k => laws_szTerm.f k (x.f0) (x.f1) (x.f2) (x.f3.f0) (x.f3.f1) (x.f3.f2) (x.f4) (x.f5) left) (cut (wtTerm x) left) := by
  refine indTermL fun x ih hw left h0 hl => ?_
  refine Ev.up ?_
  simp only [laws_szTerm.f]
  rw [wtTerm_eq]
  have hb0 : (0 : Int) ≤ left ∧ left ≤ 1048576 := ⟨h0, hl⟩
  have hs0 := cut_sub (n := x.f1.size) hb0.1 hb0.2 (hw.p1)
  by_cases hc0 : cut (x.f1.size) left < 0
  · refine Ev.pos (hs0.1.2 hc0) (Ev.const ?_)
    have hn : cut (x.f1.size) left < 0 := hc0
    have hn : cut (x.f1.size + wtType x.f3) left < 0 := by rw [cut_add' hn]; omega
    have hn : cut (x.f1.size + wtType x.f3 + wts x.f4) left < 0 := by rw [cut_add' hn]; omega
    have hn : cut (x.f1.size + wtType x.f3 + wts x.f4 + (x.f5.length + wtTermS x.f5)) left < 0 := by rw [cut_add' hn]; omega
    have hv := cut_neg.1 hn; unfold cut; rw [if_neg hv]
  refine Ev.neg (fun h => hc0 (hs0.1.1 h)) ?_
  rw [hs0.2 (by omega)]
  have hb1 : (0 : Int) ≤ cut (x.f1.size) left ∧ cut (x.f1.size) left ≤ 1048576 := ⟨by omega, by have := cut_le (n := x.f1.size) h0; omega⟩
  refine Ev.bind (szType_ev x.f3 hw.p3 _ hb1.1 hb1.2) ?_
  by_cases hc1 : cut (wtType x.f3) (cut (x.f1.size) left) < 0
  · refine Ev.pos hc1 (Ev.const ?_)
    have hn : cut (x.f1.size + wtType x.f3) left < 0 := by rw [← cut_add (by omega)]; exact hc1
    have hn : cut (x.f1.size + wtType x.f3 + wts x.f4) left < 0 := by rw [cut_add' hn]; omega
    have hn : cut (x.f1.size + wtType x.f3 + wts x.f4 + (x.f5.length + wtTermS x.f5)) left < 0 := by rw [cut_add' hn]; omega
    have hv := cut_neg.1 hn; unfold cut; rw [if_neg hv]
  refine Ev.neg hc1 ?_
  rw [cut_add (by omega)] at hc1 ⊢
  have hb2 : (0 : Int) ≤ cut (x.f1.size + wtType x.f3) left ∧ cut (x.f1.size + wtType x.f3) left ≤ 1048576 := ⟨by omega, by have := cut_le (n := x.f1.size + wtType x.f3) h0; omega⟩
  refine Ev.bind (szStringS_ev x.f4 hw.p4 _ hb2.1 hb2.2) ?_
  by_cases hc2 : cut (wts x.f4) (cut (x.f1.size + wtType x.f3) left) < 0
  · refine Ev.pos hc2 (Ev.const ?_)
    have hn : cut (x.f1.size + wtType x.f3 + wts x.f4) left < 0 := by rw [← cut_add (by omega)]; exact hc2
    have hn : cut (x.f1.size + wtType x.f3 + wts x.f4 + (x.f5.length + wtTermS x.f5)) left < 0 := by rw [cut_add' hn]; omega
    have hv := cut_neg.1 hn; unfold cut; rw [if_neg hv]
  refine Ev.neg hc2 ?_
  rw [cut_add (by omega)] at hc2 ⊢
  have hb3 : (0 : Int) ≤ cut (x.f1.size + wtType x.f3 + wts x.f4) left ∧ cut (x.f1.size + wtType x.f3 + wts x.f4) left ≤ 1048576 := ⟨by omega, by have := cut_le (n := x.f1.size + wtType x.f3 + wts x.f4) h0; omega⟩
  refine Ev.bind (szTermS_of x.f5 hw.p5.1 (fun y hy => ih y hy (hw.p5.2 y hy)) _ hb3.1 hb3.2) ?_
  by_cases hc3 : cut ((x.f5.length + wtTermS x.f5)) (cut (x.f1.size + wtType x.f3 + wts x.f4) left) < 0
  · refine Ev.pos hc3 (Ev.const ?_)
    have hn : cut (x.f1.size + wtType x.f3 + wts x.f4 + (x.f5.length + wtTermS x.f5)) left < 0 := by rw [← cut_add (by omega)]; exact hc3
    have hv := cut_neg.1 hn; unfold cut; rw [if_neg hv]
  refine Ev.neg hc3 ?_
  rw [cut_add (by omega)] at hc3 ⊢
  have hb4 : (0 : Int) ≤ cut (x.f1.size + wtType x.f3 + wts x.f4 + (x.f5.length + wtTermS x.f5)) left ∧ cut (x.f1.size + wtType x.f3 + wts x.f4 + (x.f5.length + wtTermS x.f5)) left ≤ 1048576 := ⟨by omega, by have := cut_le (n := x.f1.size + wtType x.f3 + wts x.f4 + (x.f5.length + wtTermS x.f5)) h0; omega⟩
  exact Ev.const rfl
theorem toTermS_of (xs : List S68) (hx : xs.length ≤ 1048576) (h : ∀ y ∈ xs, Ev (fun k => laws_toTerm.f k (y.f0) (y.f1) (y.f2) (y.f3.f0) (y.f3.f1) (y.f3.f2) (y.f4) (y.f5)) ((cvTerm y).f0, (cvTerm y).f1, (cvTerm y).f2, (cvTerm y).f3.f0, (cvTerm y).f3.f1, (cvTerm y).f3.f2, (cvTerm y).f4, (cvTerm y).f5)) : Ev (fun k => laws_toTermS.f k xs) (cvTermS xs) := by
  refine Ev.up ?_
  simp only [laws_toTermS.f]
  refine Ev.pos (by omega) (Ev.pos (by omega) ?_)
  have hw := to_loop xs.length (fun k i => (laws_toTerm.f k ((rd_T68 xs (i : Int)).f0) ((rd_T68 xs (i : Int)).f1) ((rd_T68 xs (i : Int)).f2) ((rd_T68 xs (i : Int)).f3.f0) ((rd_T68 xs (i : Int)).f3.f1) ((rd_T68 xs (i : Int)).f3.f2) ((rd_T68 xs (i : Int)).f4) ((rd_T68 xs (i : Int)).f5)).map fun t => (⟨t.1, t.2.1, t.2.2.1, (⟨t.2.2.2.1, t.2.2.2.2.1, t.2.2.2.2.2.1⟩ : S41), t.2.2.2.2.2.2.1, t.2.2.2.2.2.2.2⟩ : S44)) (fun k out i => laws_toTermS.l0 k xs out (i : Int)) (fun i => cvTerm (xs.getD i z68)) (fun k out i hi hl => by
    simp only [laws_toTermS.l0]
    rw [if_pos (by omega), if_pos (by omega)]
    rcases laws_toTerm.f k ((rd_T68 xs (i : Int)).f0) ((rd_T68 xs (i : Int)).f1) ((rd_T68 xs (i : Int)).f2) ((rd_T68 xs (i : Int)).f3.f0) ((rd_T68 xs (i : Int)).f3.f1) ((rd_T68 xs (i : Int)).f3.f2) ((rd_T68 xs (i : Int)).f4) ((rd_T68 xs (i : Int)).f5) with _ | t
    · rfl
    · simp only [Option.map_some, Option.bind_some]
      rw [if_pos (by omega), w1' hi hx]
      rfl) (fun k out => by simp only [laws_toTermS.l0]; rw [if_neg (by omega)]) (fun i hi => Ev.eq (Ev.map (fun t => (⟨t.1, t.2.1, t.2.2.1, (⟨t.2.2.2.1, t.2.2.2.2.1, t.2.2.2.2.2.1⟩ : S41), t.2.2.2.2.2.2.1, t.2.2.2.2.2.2.2⟩ : S44)) (h _ (mem_getD xs z68 i hi))) (etaTerm _)) xs.length 0 (List.replicate ((xs.length : Int)).toNat z44) (by omega) (by simp)
  refine Ev.eq hw ?_
  rw [List.take_zero, List.nil_append, range_map_getElem cvTerm z68 xs, cvTermS_map]
theorem toTerm_ev : ∀ x : S68, wtTerm x ≤ 1048576 → Ev (fun k => laws_toTerm.f k (x.f0) (x.f1) (x.f2) (x.f3.f0) (x.f3.f1) (x.f3.f2) (x.f4) (x.f5)) ((cvTerm x).f0, (cvTerm x).f1, (cvTerm x).f2, (cvTerm x).f3.f0, (cvTerm x).f3.f1, (cvTerm x).f3.f2, (cvTerm x).f4, (cvTerm x).f5) := by
  refine indTermL fun x ih hw2 => ?_
  refine Ev.up ?_
  simp only [laws_toTerm.f]
  have hb := hw2
  rw [wtTerm_eq] at hb
  refine Ev.bind (toType_ev x.f3 (by omega)) ?_
  refine Ev.bind (toStringS_ev x.f4 (by unfold wts at hb; omega)) ?_
  refine Ev.bind (toTermS_of x.f5 (by omega) (fun y hy => ih y hy (by have := sum_le_of_mem wtTerm hy; rw [← wtTermS_sum] at this; omega))) ?_
  exact Ev.const (by rw [cvTerm_eq])
theorem eqTermS_of (xs : List S44) (hx : xs.length ≤ 1048576) (h : ∀ y ∈ xs, Ev (fun k => laws_eqTerm.f k (y.f0) (y.f1) (y.f2) (y.f3.f0) (y.f3.f1) (y.f3.f2) (y.f4) (y.f5) (y.f0) (y.f1) (y.f2) (y.f3.f0) (y.f3.f1) (y.f3.f2) (y.f4) (y.f5)) true) : Ev (fun k => laws_eqTermS.f k xs xs) true := by
  refine Ev.up ?_
  simp only [laws_eqTermS.f]
  refine Ev.pos (by simp) ?_
  exact eq_loop xs.length (fun k i => laws_eqTerm.f k ((rd_T44 xs (i : Int)).f0) ((rd_T44 xs (i : Int)).f1) ((rd_T44 xs (i : Int)).f2) ((rd_T44 xs (i : Int)).f3.f0) ((rd_T44 xs (i : Int)).f3.f1) ((rd_T44 xs (i : Int)).f3.f2) ((rd_T44 xs (i : Int)).f4) ((rd_T44 xs (i : Int)).f5) ((rd_T44 xs (i : Int)).f0) ((rd_T44 xs (i : Int)).f1) ((rd_T44 xs (i : Int)).f2) ((rd_T44 xs (i : Int)).f3.f0) ((rd_T44 xs (i : Int)).f3.f1) ((rd_T44 xs (i : Int)).f3.f2) ((rd_T44 xs (i : Int)).f4) ((rd_T44 xs (i : Int)).f5)) (fun k i => laws_eqTermS.l0 k xs xs (i : Int)) (fun k i hi => by
    simp only [laws_eqTermS.l0]
    rw [if_pos (by omega), if_pos (by omega), if_pos (by omega), w1' hi hx]) (fun k => by simp only [laws_eqTermS.l0]; rw [if_neg (by omega)]) (fun i hi => h _ (mem_getD xs z44 i hi)) xs.length 0 (by omega)
theorem eqTerm_ev : ∀ x : S44, SmTerm x → Ev (fun k => laws_eqTerm.f k (x.f0) (x.f1) (x.f2) (x.f3.f0) (x.f3.f1) (x.f3.f2) (x.f4) (x.f5) (x.f0) (x.f1) (x.f2) (x.f3.f0) (x.f3.f1) (x.f3.f2) (x.f4) (x.f5)) true := by
  refine indTermI fun x ih hs => ?_
  refine Ev.up ?_
  simp only [laws_eqTerm.f]
  refine Ev.pos (by simp) ?_
  refine Ev.pos (by simp) ?_
  refine Ev.pos (by simp) ?_
  refine Ev.bind (eqType_ev x.f3 hs.p3) (Ev.pos (by simp) ?_)
  refine Ev.bind (eqStringS_ev x.f4 hs.p4.1) (Ev.pos (by simp) ?_)
  refine Ev.bind (eqTermS_of x.f5 hs.p5.1 (fun y hy => ih y hy (hs.p5.2 y hy))) (Ev.pos (by simp) ?_)
  exact Ev.now _
end Go.Proofs.Ytpkppeicceehcaa.Px
end
section
namespace Go.Proofs.Ytpkppeicceehcaa.Px
open Go.RowKit Go.Proofs.YtpkppeicceehcaaW.PrintWords Go.Proofs.YtpkppeicceehcaaW.PrintLast Go.Proofs.Ytpkppeicceehcaa.Pl Go.Proofs.Ytpkppeicceehcaa.Ext
set_option linter.unusedVariables false
set_option linter.unusedSimpArgs false
theorem EqualTerm_same_ : ∀ x : S44, ∀ y : S44, SmTerm x → SmTerm y → Same (fun k => spec_EqualTerm.f k x.f0 x.f1 x.f2 x.f3.f0 x.f3.f1 x.f3.f2 x.f4 x.f5 y.f0 y.f1 y.f2 y.f3.f0 y.f3.f1 y.f3.f2 y.f4 y.f5) (fun k => impl_EqualTerm.f k x.f0 x.f1 x.f2 x.f3.f0 x.f3.f1 x.f3.f2 x.f4 x.f5 y.f0 y.f1 y.f2 y.f3.f0 y.f3.f1 y.f3.f2 y.f4 y.f5) := by
  refine indTermI fun x ih y hs ht => ?_
  have no : Ev (fun k => spec_EqualTerm.j0 k true x.f0 x.f1 x.f2 x.f3.f0 x.f3.f1 x.f3.f2 x.f4 x.f5 y.f0 y.f1 y.f2 y.f3.f0 y.f3.f1 y.f3.f2 y.f4 y.f5) false := by
    refine Ev.up ?_
    simp only [spec_EqualTerm.j0]
    exact Ev.pos (by simp) (Ev.now _)
  refine Same.up ?_
  simp only [spec_EqualTerm.f, impl_EqualTerm.f]
  refine Same.ite Iff.rfl (fun _ => ?_) (fun _ => ⟨false, no, Ev.now _⟩)
  refine Same.ite Iff.rfl (fun _ => ?_) (fun _ => ⟨false, no, Ev.now _⟩)
  refine Same.ite Iff.rfl (fun _ => ?_) (fun _ => ⟨false, no, Ev.now _⟩)
  refine Same.bind (EqualType_same_ x.f3 y.f3 hs.p3 ht.p3) (fun t _ _ => ?_)
  refine Same.ite Iff.rfl (fun _ => ?_) (fun _ => ⟨false, no, Ev.now _⟩)
  refine Same.bind (Texts_same x.f4 y.f4 hs.p4.1) (fun t _ _ => ?_)
  refine Same.ite Iff.rfl (fun _ => ?_) (fun _ => ⟨false, no, Ev.now _⟩)
  by_cases hl : x.f5.length = y.f5.length
  · have loop : Same (fun k => spec_EqualTerm.l0 k 0 x.f0 x.f1 x.f2 x.f3.f0 x.f3.f1 x.f3.f2 x.f4 x.f5 y.f0 y.f1 y.f2 y.f3.f0 y.f3.f1 y.f3.f2 y.f4 y.f5) (fun k => slices_EqualFunc_Term_of_EqualTerm.l0 k y.f5 x.f5 (x.f5.length : Int) 0) := by
      refine Same.loop0 x.f5.length (fun k i => spec_EqualTerm.l0 k (i : Int) x.f0 x.f1 x.f2 x.f3.f0 x.f3.f1 x.f3.f2 x.f4 x.f5 y.f0 y.f1 y.f2 y.f3.f0 y.f3.f1 y.f3.f2 y.f4 y.f5) (fun k i => slices_EqualFunc_Term_of_EqualTerm.l0 k y.f5 x.f5 (x.f5.length : Int) (i : Int)) ?_ (fun i hi ihl => ?_)
      · refine Same.up ?_
        simp only [spec_EqualTerm.l0, slices_EqualFunc_Term_of_EqualTerm.l0]
        exact Same.neg (by omega) (by omega) (Same.ret rfl)
      · refine Same.up ?_
        simp only [spec_EqualTerm.l0, slices_EqualFunc_Term_of_EqualTerm.l0, w1' hi hs.p5.1]
        refine Same.pos (by omega) (by omega) (Same.pos (by omega) (by omega) (Same.posR (by omega) (Same.pos (by omega) (by omega) ?_)))
        refine Same.bind (ih (x.f5.getD i z44) (mem_getD x.f5 z44 i hi) (y.f5.getD i z44) (hs.p5.2 _ (mem_getD x.f5 z44 i hi)) (ht.p5.2 _ (mem_getD y.f5 z44 i (by omega)))) (fun t _ _ => ?_)
        exact Same.ite Iff.rfl (fun _ => ihl) (fun _ => Same.ret rfl)
    rw [show ((x.f5.length : Int) != (y.f5.length : Int)) = false from by simp [hl]]
    refine Same.upL ?_
    simp only [spec_EqualTerm.j0]
    refine Same.negL (by decide) ?_
    obtain ⟨r, h1, h2⟩ := loop
    refine ⟨r, h1, Ev.bind (a := r) ?_ (Ev.now _)⟩
    refine Ev.up ?_
    simp only [slices_EqualFunc_Term_of_EqualTerm.f]
    exact Ev.pos (by omega) h2
  · rw [show ((x.f5.length : Int) != (y.f5.length : Int)) = true from by simpa using (by omega : ¬ (x.f5.length : Int) = y.f5.length)]
    refine ⟨false, no, Ev.bind (a := false) ?_ (Ev.now _)⟩
    refine Ev.up ?_
    simp only [slices_EqualFunc_Term_of_EqualTerm.f]
    exact Ev.neg (by omega) (Ev.now _)
end Go.Proofs.Ytpkppeicceehcaa.Px
end
section
namespace Go.Proofs.Ytpkppeicceehcaa.Px
open Go.RowKit Go.Proofs.YtpkppeicceehcaaW.PrintWords Go.Proofs.Ytpkppeicceehcaa.Pl
set_option linter.unusedVariables false
set_option linter.unusedSimpArgs false
def wtGen : S89 → Nat
  | ⟨x0, x1⟩ => x0.size + x1.size
def wtGenS : List S89 → Nat
  | [] => 0
  | x :: r => wtGen x + wtGenS r
def cvGen : S89 → S77
  | ⟨x0, x1⟩ => ⟨x0, x1⟩
def cvGenS : List S89 → List S77
  | [] => []
  | x :: r => cvGen x :: cvGenS r
theorem wtGenS_sum (xs : List S89) : wtGenS xs = (xs.map wtGen).sum := by
  induction xs with
  | nil => rfl
  | cons x r ih => simp [wtGenS, ih]
theorem cvGenS_map (xs : List S89) : cvGenS xs = xs.map cvGen := by
  induction xs with
  | nil => rfl
  | cons x r ih => simp [cvGenS, ih]
theorem wtGen_eq (x : S89) : wtGen x = x.f0.size + x.f1.size := by cases x; simp only [wtGen]
theorem cvGen_eq (x : S89) : cvGen x = ⟨x.f0, x.f1⟩ := by cases x; simp only [cvGen]
def SmGen (x : S77) : Prop := (x.f0.size ≤ 1048576) ∧ (x.f1.size ≤ 1048576)
theorem SmGen.p0 {x : S77} (h : SmGen x) : x.f0.size ≤ 1048576 := h.1
theorem SmGen.p1 {x : S77} (h : SmGen x) : x.f1.size ≤ 1048576 := h.2
theorem etaGen (x : S77) : (⟨x.f0, x.f1⟩ : S77) = x := by obtain ⟨_, _⟩ := x; rfl
theorem smGen_of (x : S89) (hw : W89 x) (hw2 : wtGen x ≤ 1048576) : SmGen (cvGen x) := by
  have hb := hw2
  rw [wtGen_eq] at hb
  rw [cvGen_eq]
  exact ⟨by (try dsimp only); omega, by (try dsimp only); omega⟩
theorem szGenS_of (xs : List S89) (hx : xs.length ≤ maxLen) (h : ∀ y ∈ xs, ∀ left : Int, 0 ≤ left → left ≤ 1048576 → Ev (fun k => laws_szGen.f (y.f0) (y.f1) left) (cut (wtGen y) left)) (left : Int) (h0 : 0 ≤ left) (hl : left ≤ 1048576) : Ev (fun k => laws_szGenS.f k xs left) (cut (xs.length + wtGenS xs) left) := by
  simp only [laws_szGenS.f]
  have hs := cut_sub (n := xs.length) h0 hl hx
  by_cases hc : cut xs.length left < 0
  · exact Ev.pos (hs.1.2 hc) (Ev.const (cut_add' hc).symm)
  · refine Ev.neg (fun h => hc (hs.1.1 h)) ?_
    rw [hs.2 (by omega)]
    have hl2 := cut_le (n := xs.length) h0
    have hw := sz_loop xs.length (fun k i left => laws_szGen.f ((rd_T89 xs (i : Int)).f0) ((rd_T89 xs (i : Int)).f1) left) (fun k left i => laws_szGenS.l0 k xs left (i : Int)) (fun i => wtGen (xs.getD i z89)) (fun k left i hi => by
      simp only [laws_szGenS.l0]
      rw [if_pos (by omega), if_pos (by omega), w1 hi hx]) (fun k left => by simp only [laws_szGenS.l0]; rw [if_neg (by omega)]) (fun i left hi h0 hl => h _ (mem_getD xs z89 i hi) left h0 hl) xs.length 0 _ (by omega) (show 0 ≤ cut xs.length left by omega) (by omega)
    refine Ev.eq hw ?_
    rw [cut_add (by omega), sumF_list wtGen z89 xs xs.length 0 (by omega), wtGenS_sum]
    rfl
theorem szGen_ev : ∀ x : S89, W89 x → ∀ left : Int, 0 ≤ left → left ≤ 1048576 → Ev (fun k => laws_szGen.f (x.f0) (x.f1) left) (cut (wtGen x) left) := by
  intro x hw left h0 hl
  simp only [laws_szGen.f]
  rw [wtGen_eq]
  have hb0 : (0 : Int) ≤ left ∧ left ≤ 1048576 := ⟨h0, hl⟩
  have hs0 := cut_sub (n := x.f0.size) hb0.1 hb0.2 (hw.1)
  by_cases hc0 : cut (x.f0.size) left < 0
  · refine Ev.pos (hs0.1.2 hc0) (Ev.const ?_)
    have hn : cut (x.f0.size) left < 0 := hc0
    have hn : cut (x.f0.size + x.f1.size) left < 0 := by rw [cut_add' hn]; omega
    have hv := cut_neg.1 hn; unfold cut; rw [if_neg hv]
  refine Ev.neg (fun h => hc0 (hs0.1.1 h)) ?_
  rw [hs0.2 (by omega)]
  have hb1 : (0 : Int) ≤ cut (x.f0.size) left ∧ cut (x.f0.size) left ≤ 1048576 := ⟨by omega, by have := cut_le (n := x.f0.size) h0; omega⟩
  have hs1 := cut_sub (n := x.f1.size) hb1.1 hb1.2 (hw.2)
  by_cases hc1 : cut (x.f1.size) (cut (x.f0.size) left) < 0
  · refine Ev.pos (hs1.1.2 hc1) (Ev.const ?_)
    have hn : cut (x.f0.size + x.f1.size) left < 0 := by rw [← cut_add (by omega)]; exact hc1
    have hv := cut_neg.1 hn; unfold cut; rw [if_neg hv]
  refine Ev.neg (fun h => hc1 (hs1.1.1 h)) ?_
  rw [hs1.2 (by omega)]
  rw [cut_add (by omega)] at hc1 ⊢
  have hb2 : (0 : Int) ≤ cut (x.f0.size + x.f1.size) left ∧ cut (x.f0.size + x.f1.size) left ≤ 1048576 := ⟨by omega, by have := cut_le (n := x.f0.size + x.f1.size) h0; omega⟩
  exact Ev.const rfl
theorem toGenS_of (xs : List S89) (hx : xs.length ≤ 1048576) (h : ∀ y ∈ xs, Ev (fun k => laws_toGen.f (y.f0) (y.f1)) ((cvGen y).f0, (cvGen y).f1)) : Ev (fun k => laws_toGenS.f k xs) (cvGenS xs) := by
  simp only [laws_toGenS.f]
  refine Ev.pos (by omega) (Ev.pos (by omega) ?_)
  have hw := to_loop xs.length (fun k i => (laws_toGen.f ((rd_T89 xs (i : Int)).f0) ((rd_T89 xs (i : Int)).f1)).map fun t => (⟨t.1, t.2⟩ : S77)) (fun k out i => laws_toGenS.l0 k xs out (i : Int)) (fun i => cvGen (xs.getD i z89)) (fun k out i hi hl => by
    simp only [laws_toGenS.l0]
    rw [if_pos (by omega), if_pos (by omega)]
    rcases laws_toGen.f ((rd_T89 xs (i : Int)).f0) ((rd_T89 xs (i : Int)).f1) with _ | t
    · rfl
    · simp only [Option.map_some, Option.bind_some]
      rw [if_pos (by omega), w1' hi hx]
      rfl) (fun k out => by simp only [laws_toGenS.l0]; rw [if_neg (by omega)]) (fun i hi => Ev.eq (Ev.map (fun t => (⟨t.1, t.2⟩ : S77)) (h _ (mem_getD xs z89 i hi))) (etaGen _)) xs.length 0 (List.replicate ((xs.length : Int)).toNat z77) (by omega) (by simp)
  refine Ev.eq hw ?_
  rw [List.take_zero, List.nil_append, range_map_getElem cvGen z89 xs, cvGenS_map]
theorem toGen_ev : ∀ x : S89, wtGen x ≤ 1048576 → Ev (fun k => laws_toGen.f (x.f0) (x.f1)) ((cvGen x).f0, (cvGen x).f1) := by
  intro x hw2
  simp only [laws_toGen.f]
  have hb := hw2
  rw [wtGen_eq] at hb

  exact Ev.const (by rw [cvGen_eq])
theorem eqGenS_of (xs : List S77) (hx : xs.length ≤ 1048576) (h : ∀ y ∈ xs, Ev (fun k => laws_eqGen.f (y.f0) (y.f1) (y.f0) (y.f1)) true) : Ev (fun k => laws_eqGenS.f k xs xs) true := by
  simp only [laws_eqGenS.f]
  refine Ev.pos (by simp) ?_
  exact eq_loop xs.length (fun k i => laws_eqGen.f ((rd_T77 xs (i : Int)).f0) ((rd_T77 xs (i : Int)).f1) ((rd_T77 xs (i : Int)).f0) ((rd_T77 xs (i : Int)).f1)) (fun k i => laws_eqGenS.l0 k xs xs (i : Int)) (fun k i hi => by
    simp only [laws_eqGenS.l0]
    rw [if_pos (by omega), if_pos (by omega), if_pos (by omega), w1' hi hx]) (fun k => by simp only [laws_eqGenS.l0]; rw [if_neg (by omega)]) (fun i hi => h _ (mem_getD xs z77 i hi)) xs.length 0 (by omega)
theorem eqGen_ev : ∀ x : S77, SmGen x → Ev (fun k => laws_eqGen.f (x.f0) (x.f1) (x.f0) (x.f1)) true := by
  intro x hs
  simp only [laws_eqGen.f]
  refine Ev.pos (by simp) ?_
  refine Ev.pos (by simp) ?_
  exact Ev.now _
end Go.Proofs.Ytpkppeicceehcaa.Px
end
section
namespace Go.Proofs.Ytpkppeicceehcaa.Px
open Go.RowKit Go.Proofs.YtpkppeicceehcaaW.PrintWords Go.Proofs.Ytpkppeicceehcaa.Pl
set_option linter.unusedVariables false
set_option linter.unusedSimpArgs false
mutual
def wtHead : S71 → Nat
  | ⟨x0, x1, x2, x3, ⟨x4⟩⟩ => wtTerm x1 + wts x2 + (x3.length + wtHeadS x3) + (x4.length + wtCompS x4)
def wtHeadS : List S71 → Nat
  | [] => 0
  | x :: r => wtHead x + wtHeadS r
def wtCompS : List S73 → Nat
  | [] => 0
  | ⟨g, t, x⟩ :: r => (g.length + wtGenS g) + wtTerm t + wtHead x + wtCompS r
end
mutual
def cvHead : S71 → S47
  | ⟨x0, x1, x2, x3, ⟨x4⟩⟩ => ⟨x0, cvTerm x1, x2, cvHeadS x3, ⟨cvCompS x4⟩⟩
def cvHeadS : List S71 → List S47
  | [] => []
  | x :: r => cvHead x :: cvHeadS r
def cvCompS : List S73 → List S49
  | [] => []
  | ⟨g, t, x⟩ :: r => ⟨cvGenS g, cvTerm t, cvHead x⟩ :: cvCompS r
end
def wtComp (x : S73) : Nat := (x.f0.length + wtGenS x.f0) + wtTerm x.f1 + wtHead x.f2
def cvComp (x : S73) : S49 := ⟨cvGenS x.f0, cvTerm x.f1, cvHead x.f2⟩
def wtQuery (x : S24) : Nat := x.f0.length + wtCompS x.f0
def cvQuery (x : S24) : S29 := ⟨cvCompS x.f0⟩
theorem wtCompS_sum (xs : List S73) : wtCompS xs = (xs.map wtComp).sum := by
  induction xs with
  | nil => simp [wtCompS]
  | cons x r ih => obtain ⟨g, t, x⟩ := x; simp [wtCompS, wtComp, ih]
theorem cvCompS_map (xs : List S73) : cvCompS xs = xs.map cvComp := by
  induction xs with
  | nil => simp [cvCompS]
  | cons x r ih => obtain ⟨g, t, x⟩ := x; simp [cvCompS, cvComp, ih]
theorem wtHeadS_sum (xs : List S71) : wtHeadS xs = (xs.map wtHead).sum := by
  induction xs with
  | nil => simp [wtHeadS]
  | cons x r ih => simp [wtHeadS, ih]
theorem cvHeadS_map (xs : List S71) : cvHeadS xs = xs.map cvHead := by
  induction xs with
  | nil => simp [cvHeadS]
  | cons x r ih => simp [cvHeadS, ih]
theorem wtHead_eq (x : S71) : wtHead x = wtTerm x.f1 + wts x.f2 + (x.f3.length + wtHeadS x.f3) + wtQuery x.f4 := by obtain ⟨_, _, _, _, ⟨_⟩⟩ := x; simp only [wtHead, wtQuery]
theorem cvHead_eq (x : S71) : cvHead x = ⟨x.f0, cvTerm x.f1, x.f2, cvHeadS x.f3, cvQuery x.f4⟩ := by obtain ⟨_, _, _, _, ⟨_⟩⟩ := x; simp only [cvHead, cvQuery]
theorem wtComp_eq (x : S73) : wtComp x = (x.f0.length + wtGenS x.f0) + wtTerm x.f1 + wtHead x.f2 := rfl
theorem cvComp_eq (x : S73) : cvComp x = ⟨cvGenS x.f0, cvTerm x.f1, cvHead x.f2⟩ := rfl
theorem wtQuery_eq (x : S24) : wtQuery x = (x.f0.length + wtCompS x.f0) := rfl
theorem cvQuery_eq (x : S24) : cvQuery x = ⟨cvCompS x.f0⟩ := rfl
theorem indHeadL {P : S71 → Prop} (h : ∀ x, (∀ y ∈ x.f3, P y) → (∀ y ∈ x.f4.f0, P y.f2) → P x) : ∀ x, P x
  | ⟨x0, x1, x2, x3, ⟨x4⟩⟩ => h _ (fun y hy => indHeadL h y) (fun y hy => indHeadL h y.f2)
termination_by x => SizeOf.sizeOf x
decreasing_by
  · have := List.sizeOf_lt_of_mem hy
    simp at this ⊢
    omega
  · have h1 := List.sizeOf_lt_of_mem hy
    have h2 : SizeOf.sizeOf y.f2 < SizeOf.sizeOf y := by obtain ⟨_, _, _⟩ := y; simp; omega
    simp at h1 ⊢
    omega
theorem indHeadI {P : S47 → Prop} (h : ∀ x, (∀ y ∈ x.f3, P y) → (∀ y ∈ x.f4.f0, P y.f2) → P x) : ∀ x, P x
  | ⟨x0, x1, x2, x3, ⟨x4⟩⟩ => h _ (fun y hy => indHeadI h y) (fun y hy => indHeadI h y.f2)
termination_by x => SizeOf.sizeOf x
decreasing_by
  · have := List.sizeOf_lt_of_mem hy
    simp at this ⊢
    omega
  · have h1 := List.sizeOf_lt_of_mem hy
    have h2 : SizeOf.sizeOf y.f2 < SizeOf.sizeOf y := by obtain ⟨_, _, _⟩ := y; simp; omega
    simp at h1 ⊢
    omega
inductive SmHead : S47 → Prop
  | mk {x : S47} : ((Lit.int .i64 x.f0).wf = true) → SmTerm x.f1 → ((x.f2.length ≤ 1048576 ∧ ∀ y ∈ x.f2, y.size ≤ 1048576)) → x.f3.length ≤ 1048576 → (∀ y ∈ x.f3, SmHead y) → x.f4.f0.length ≤ 1048576 → (∀ z ∈ x.f4.f0, (z.f0.length ≤ 1048576 ∧ ∀ y ∈ z.f0, SmGen y)) → (∀ z ∈ x.f4.f0, SmTerm z.f1) → (∀ z ∈ x.f4.f0, SmHead z.f2) → SmHead x
def SmComp (x : S49) : Prop := ((x.f0.length ≤ 1048576 ∧ ∀ y ∈ x.f0, SmGen y)) ∧ (SmTerm x.f1) ∧ (SmHead x.f2)
theorem SmComp.p0 {x : S49} (h : SmComp x) : (x.f0.length ≤ 1048576 ∧ ∀ y ∈ x.f0, SmGen y) := h.1
theorem SmComp.p1 {x : S49} (h : SmComp x) : SmTerm x.f1 := h.2.1
theorem SmComp.p2 {x : S49} (h : SmComp x) : SmHead x.f2 := h.2.2
def SmQuery (x : S29) : Prop := ((x.f0.length ≤ 1048576 ∧ ∀ y ∈ x.f0, SmComp y))
theorem SmQuery.p0 {x : S29} (h : SmQuery x) : (x.f0.length ≤ 1048576 ∧ ∀ y ∈ x.f0, SmComp y) := h
theorem SmHead.p0 {x : S47} (h : SmHead x) : (Lit.int .i64 x.f0).wf = true := by cases h; assumption
theorem SmHead.p1 {x : S47} (h : SmHead x) : SmTerm x.f1 := by cases h; assumption
theorem SmHead.p2 {x : S47} (h : SmHead x) : (x.f2.length ≤ 1048576 ∧ ∀ y ∈ x.f2, y.size ≤ 1048576) := by cases h; assumption
theorem SmHead.p3 {x : S47} (h : SmHead x) : x.f3.length ≤ 1048576 ∧ ∀ y ∈ x.f3, SmHead y := by cases h; constructor <;> assumption
theorem SmHead.p4 {x : S47} (h : SmHead x) : SmQuery x.f4 := by cases h with | mk _ _ _ _ _ l_ q0 q1 q2 => exact ⟨l_, fun y hy => ⟨q0 y hy, q1 y hy, q2 y hy⟩⟩
theorem etaHead (x : S47) : (⟨x.f0, (⟨x.f1.f0, x.f1.f1, x.f1.f2, (⟨x.f1.f3.f0, x.f1.f3.f1, x.f1.f3.f2⟩ : S41), x.f1.f4, x.f1.f5⟩ : S44), x.f2, x.f3, (⟨x.f4.f0⟩ : S29)⟩ : S47) = x := by obtain ⟨_, ⟨_, _, _, ⟨_, _, _⟩, _, _⟩, _, _, ⟨_⟩⟩ := x; rfl
theorem etaComp (x : S49) : (⟨x.f0, (⟨x.f1.f0, x.f1.f1, x.f1.f2, (⟨x.f1.f3.f0, x.f1.f3.f1, x.f1.f3.f2⟩ : S41), x.f1.f4, x.f1.f5⟩ : S44), (⟨x.f2.f0, (⟨x.f2.f1.f0, x.f2.f1.f1, x.f2.f1.f2, (⟨x.f2.f1.f3.f0, x.f2.f1.f3.f1, x.f2.f1.f3.f2⟩ : S41), x.f2.f1.f4, x.f2.f1.f5⟩ : S44), x.f2.f2, x.f2.f3, (⟨x.f2.f4.f0⟩ : S29)⟩ : S47)⟩ : S49) = x := by obtain ⟨_, ⟨_, _, _, ⟨_, _, _⟩, _, _⟩, ⟨_, ⟨_, _, _, ⟨_, _, _⟩, _, _⟩, _, _, ⟨_⟩⟩⟩ := x; rfl
theorem smComp_from (x : S73) (hw : W73 x) (hw2 : wtComp x ≤ 1048576) (h : W71 x.f2 → wtHead x.f2 ≤ 1048576 → SmHead (cvHead x.f2)) : SmComp (cvComp x) := by
  have hb := hw2
  rw [wtComp_eq] at hb
  rw [cvComp_eq]
  exact ⟨⟨by (try dsimp only); rw [cvGenS_map, List.length_map]; omega, fun z hz => by
      (try dsimp only at hz)
      rw [cvGenS_map] at hz
      obtain ⟨y, hy, rfl⟩ := List.mem_map.1 hz
      exact smGen_of y (hw.1.2 y hy) (by have := sum_le_of_mem wtGen hy; rw [← wtGenS_sum] at this; omega)⟩, smTerm_of _ hw.2.1 (by omega), h hw.2.2 (by omega)⟩
theorem smHead_of : ∀ x : S71, W71 x → wtHead x ≤ 1048576 → SmHead (cvHead x) := by
  refine indHeadL fun x ih ihq hw hw2 => ?_
  have hb := hw2
  rw [wtHead_eq, wtQuery_eq] at hb
  rw [cvHead_eq, cvQuery_eq]
  have hc : ∀ y ∈ x.f4.f0, SmComp (cvComp y) := fun y hy => smComp_from y (hw.p4.2 y hy) (by have := sum_le_of_mem wtComp hy; rw [← wtCompS_sum] at this; omega) (ihq y hy)
  exact SmHead.mk hw.p0 (smTerm_of _ hw.p1 (by omega)) (⟨by (try dsimp only); unfold wts at hb; omega, fun y hy => by (try dsimp only at hy); have := sum_le_of_mem ByteArray.size hy; unfold wts szs at hb; omega⟩) (by (try dsimp only); rw [cvHeadS_map, List.length_map]; omega) (fun z hz => by
      (try dsimp only at hz)
      rw [cvHeadS_map] at hz
      obtain ⟨y, hy, rfl⟩ := List.mem_map.1 hz
      exact ih y hy (hw.p3.2 y hy) (by have := sum_le_of_mem wtHead hy; rw [← wtHeadS_sum] at this; omega)) (by (try dsimp only); rw [cvCompS_map, List.length_map]; omega) (fun z hz => by
      (try dsimp only at hz)
      rw [cvCompS_map] at hz
      obtain ⟨y, hy, rfl⟩ := List.mem_map.1 hz
      exact (hc y hy).1) (fun z hz => by
      (try dsimp only at hz)
      rw [cvCompS_map] at hz
      obtain ⟨y, hy, rfl⟩ := List.mem_map.1 hz
      exact (hc y hy).2.1) (fun z hz => by
      (try dsimp only at hz)
      rw [cvCompS_map] at hz
      obtain ⟨y, hy, rfl⟩ := List.mem_map.1 hz
      exact (hc y hy).2.2)
theorem smComp_of (x : S73) (hw : W73 x) (hw2 : wtComp x ≤ 1048576) : SmComp (cvComp x) := smComp_from x hw hw2 (smHead_of x.f2)
theorem smQuery_of (x : S24) (hw : W24 x) (hw2 : wtQuery x ≤ 1048576) : SmQuery (cvQuery x) := by
  have hb := hw2
  rw [wtQuery_eq] at hb
  rw [cvQuery_eq]
  exact ⟨by (try dsimp only); rw [cvCompS_map, List.length_map]; omega, fun z hz => by
      (try dsimp only at hz)
      rw [cvCompS_map] at hz
      obtain ⟨y, hy, rfl⟩ := List.mem_map.1 hz
      exact smComp_of y (hw.2 y hy) (by have := sum_le_of_mem wtComp hy; rw [← wtCompS_sum] at this; omega)⟩
end Go.Proofs.Ytpkppeicceehcaa.Px
end
section
namespace Go.Proofs.Ytpkppeicceehcaa.Px
open Go.RowKit Go.Proofs.YtpkppeicceehcaaW.PrintWords Go.Proofs.YtpkppeicceehcaaW.PrintLast Go.Proofs.Ytpkppeicceehcaa.Pl Go.Proofs.Ytpkppeicceehcaa.Ext
set_option linter.unusedVariables false
set_option linter.unusedSimpArgs false
theorem Gens_same (xs ys : List S77) (hx : xs.length ≤ 1048576) : Same (fun k => spec_l13EqualGens.f k xs ys) (fun k => impl_Gen.f k xs ys) := by
  simp only [spec_l13EqualGens.f, impl_Gen.f]
  refine Same.ite Iff.rfl (fun h => ?_) (fun _ => Same.ret rfl)
  refine Same.loop0 xs.length (fun k i => spec_l13EqualGens.l0 k xs ys (i : Int)) (fun k i => impl_Gen.l0 k xs ys (xs.length : Int) (i : Int)) ?_ (fun i hi ih => ?_)
  · refine Same.up ?_
    simp only [spec_l13EqualGens.l0, impl_Gen.l0]
    exact Same.neg (by omega) (by omega) (Same.ret rfl)
  · refine Same.up ?_
    simp only [spec_l13EqualGens.l0, impl_Gen.l0, w1' hi hx]
    exact Same.pos (by omega) (by omega) (Same.pos (by omega) (by omega) (Same.posR (by omega) (Same.pos (by omega) (by omega) (Same.ite Iff.rfl (fun _ => Same.ret rfl) (fun _ => ih)))))
theorem equalComp_ev (x y : S49) {g t b : Bool} (hg : Ev (fun k => impl_Gen.f k x.f0 y.f0) g) (ht : Ev (fun k => impl_EqualTerm.f k x.f1.f0 x.f1.f1 x.f1.f2 x.f1.f3.f0 x.f1.f3.f1 x.f1.f3.f2 x.f1.f4 x.f1.f5 y.f1.f0 y.f1.f1 y.f1.f2 y.f1.f3.f0 y.f1.f3.f1 y.f1.f3.f2 y.f1.f4 y.f1.f5) t) (hb : Ev (fun k => impl_equalHead.f k x.f2.f0 x.f2.f1.f0 x.f2.f1.f1 x.f2.f1.f2 x.f2.f1.f3.f0 x.f2.f1.f3.f1 x.f2.f1.f3.f2 x.f2.f1.f4 x.f2.f1.f5 x.f2.f2 x.f2.f3 x.f2.f4.f0 y.f2.f0 y.f2.f1.f0 y.f2.f1.f1 y.f2.f1.f2 y.f2.f1.f3.f0 y.f2.f1.f3.f1 y.f2.f1.f3.f2 y.f2.f1.f4 y.f2.f1.f5 y.f2.f2 y.f2.f3 y.f2.f4.f0) b) : Ev (fun k => impl_equalComp.f k x.f0 x.f1.f0 x.f1.f1 x.f1.f2 x.f1.f3.f0 x.f1.f3.f1 x.f1.f3.f2 x.f1.f4 x.f1.f5 x.f2.f0 x.f2.f1.f0 x.f2.f1.f1 x.f2.f1.f2 x.f2.f1.f3.f0 x.f2.f1.f3.f1 x.f2.f1.f3.f2 x.f2.f1.f4 x.f2.f1.f5 x.f2.f2 x.f2.f3 x.f2.f4.f0 y.f0 y.f1.f0 y.f1.f1 y.f1.f2 y.f1.f3.f0 y.f1.f3.f1 y.f1.f3.f2 y.f1.f4 y.f1.f5 y.f2.f0 y.f2.f1.f0 y.f2.f1.f1 y.f2.f1.f2 y.f2.f1.f3.f0 y.f2.f1.f3.f1 y.f2.f1.f3.f2 y.f2.f1.f4 y.f2.f1.f5 y.f2.f2 y.f2.f3 y.f2.f4.f0) (g && t && b) := by
  refine Ev.up ?_
  simp only [impl_equalComp.f]
  refine Ev.bind hg ?_
  cases g
  · exact Ev.neg (by decide) (Ev.now _)
  refine Ev.pos rfl ?_
  refine Ev.bind ht ?_
  cases t
  · exact Ev.neg (by decide) (Ev.now _)
  refine Ev.pos rfl ?_
  exact Ev.bind hb (Ev.now _)
theorem EqualQuery_from (xs ys : List S49) (hx : xs.length ≤ 1048576) (sx : ∀ x ∈ xs, SmComp x) (sy : ∀ y ∈ ys, SmComp y) (h : ∀ x ∈ xs, ∀ y ∈ ys, Same (fun k => spec_l13EqualHead.f k x.f2.f0 x.f2.f1.f0 x.f2.f1.f1 x.f2.f1.f2 x.f2.f1.f3.f0 x.f2.f1.f3.f1 x.f2.f1.f3.f2 x.f2.f1.f4 x.f2.f1.f5 x.f2.f2 x.f2.f3 x.f2.f4.f0 y.f2.f0 y.f2.f1.f0 y.f2.f1.f1 y.f2.f1.f2 y.f2.f1.f3.f0 y.f2.f1.f3.f1 y.f2.f1.f3.f2 y.f2.f1.f4 y.f2.f1.f5 y.f2.f2 y.f2.f3 y.f2.f4.f0) (fun k => impl_equalHead.f k x.f2.f0 x.f2.f1.f0 x.f2.f1.f1 x.f2.f1.f2 x.f2.f1.f3.f0 x.f2.f1.f3.f1 x.f2.f1.f3.f2 x.f2.f1.f4 x.f2.f1.f5 x.f2.f2 x.f2.f3 x.f2.f4.f0 y.f2.f0 y.f2.f1.f0 y.f2.f1.f1 y.f2.f1.f2 y.f2.f1.f3.f0 y.f2.f1.f3.f1 y.f2.f1.f3.f2 y.f2.f1.f4 y.f2.f1.f5 y.f2.f2 y.f2.f3 y.f2.f4.f0)) : Same (fun k => spec_EqualQuery.f k xs ys) (fun k => impl_EqualQuery.f k xs ys) := by
  by_cases hl : xs.length = ys.length
  · have loop : Same (fun k => spec_EqualQuery.l0 k 0 xs ys) (fun k => slices_EqualFunc_Comp_of_equalComp.l0 k ys xs (xs.length : Int) 0) := by
      refine Same.loop0 xs.length (fun k i => spec_EqualQuery.l0 k (i : Int) xs ys) (fun k i => slices_EqualFunc_Comp_of_equalComp.l0 k ys xs (xs.length : Int) (i : Int)) ?_ (fun i hi ihl => ?_)
      · refine Same.up ?_
        simp only [spec_EqualQuery.l0, slices_EqualFunc_Comp_of_equalComp.l0]
        exact Same.neg (by omega) (by omega) (Same.ret rfl)
      · have mx := mem_getD xs z49 i hi
        have my := mem_getD ys z49 i (by omega)
        obtain ⟨g, g1, g2⟩ := Gens_same (xs.getD i z49).f0 (ys.getD i z49).f0 (sx _ mx).1.1
        obtain ⟨t, t1, t2⟩ := EqualTerm_same_ (xs.getD i z49).f1 (ys.getD i z49).f1 (sx _ mx).2.1 (sy _ my).2.1
        obtain ⟨b, b1, b2⟩ := h _ mx _ my
        have hc := equalComp_ev (xs.getD i z49) (ys.getD i z49) g2 t2 b2
        obtain ⟨r, r1, r2⟩ := ihl
        refine ⟨if (g && t && b) = true then r else false, ?_, ?_⟩
        · refine Ev.up ?_
          simp only [spec_EqualQuery.l0, w1' hi hx]
          refine Ev.pos (by omega) (Ev.pos (by omega) (Ev.pos (by omega) ?_))
          refine Ev.bind g1 ?_
          cases g
          · exact Ev.neg (by decide) (Ev.now _)
          refine Ev.pos rfl ?_
          refine Ev.bind t1 ?_
          cases t
          · exact Ev.neg (by decide) (Ev.now _)
          refine Ev.pos rfl ?_
          refine Ev.bind b1 ?_
          cases b
          · exact Ev.neg (by decide) (Ev.now _)
          exact Ev.pos rfl r1
        · refine Ev.up ?_
          simp only [slices_EqualFunc_Comp_of_equalComp.l0, w1' hi hx]
          refine Ev.pos (by omega) (Ev.pos (by omega) (Ev.pos (by omega) (Ev.pos (by omega) ?_)))
          refine Ev.bind hc ?_
          by_cases hh : (g && t && b) = true
          · rw [if_pos hh]
            exact Ev.pos hh r2
          · rw [if_neg hh]
            exact Ev.neg hh (Ev.now _)
    obtain ⟨r, h1, h2⟩ := loop
    refine ⟨r, ?_, ?_⟩
    · refine Ev.up ?_
      simp only [spec_EqualQuery.f]
      exact Ev.pos (by omega) h1
    · refine Ev.up ?_
      simp only [impl_EqualQuery.f]
      refine Ev.bind (a := r) ?_ (Ev.now _)
      refine Ev.up ?_
      simp only [slices_EqualFunc_Comp_of_equalComp.f]
      exact Ev.pos (by omega) h2
  · refine ⟨false, ?_, ?_⟩
    · refine Ev.up ?_
      simp only [spec_EqualQuery.f]
      exact Ev.neg (by omega) (Ev.now _)
    · refine Ev.up ?_
      simp only [impl_EqualQuery.f]
      refine Ev.bind (a := false) ?_ (Ev.now _)
      refine Ev.up ?_
      simp only [slices_EqualFunc_Comp_of_equalComp.f]
      exact Ev.neg (by omega) (Ev.now _)
theorem EqualHead_same_ : ∀ x : S47, ∀ y : S47, SmHead x → SmHead y → Same (fun k => spec_l13EqualHead.f k x.f0 x.f1.f0 x.f1.f1 x.f1.f2 x.f1.f3.f0 x.f1.f3.f1 x.f1.f3.f2 x.f1.f4 x.f1.f5 x.f2 x.f3 x.f4.f0 y.f0 y.f1.f0 y.f1.f1 y.f1.f2 y.f1.f3.f0 y.f1.f3.f1 y.f1.f3.f2 y.f1.f4 y.f1.f5 y.f2 y.f3 y.f4.f0) (fun k => impl_equalHead.f k x.f0 x.f1.f0 x.f1.f1 x.f1.f2 x.f1.f3.f0 x.f1.f3.f1 x.f1.f3.f2 x.f1.f4 x.f1.f5 x.f2 x.f3 x.f4.f0 y.f0 y.f1.f0 y.f1.f1 y.f1.f2 y.f1.f3.f0 y.f1.f3.f1 y.f1.f3.f2 y.f1.f4 y.f1.f5 y.f2 y.f3 y.f4.f0) := by
  refine indHeadI fun x ih ihq y hs ht => ?_
  have no : Ev (fun k => spec_l13EqualHead.j0 k true x.f0 x.f1.f0 x.f1.f1 x.f1.f2 x.f1.f3.f0 x.f1.f3.f1 x.f1.f3.f2 x.f1.f4 x.f1.f5 x.f2 x.f3 x.f4.f0 y.f0 y.f1.f0 y.f1.f1 y.f1.f2 y.f1.f3.f0 y.f1.f3.f1 y.f1.f3.f2 y.f1.f4 y.f1.f5 y.f2 y.f3 y.f4.f0) false := by
    refine Ev.up ?_
    simp only [spec_l13EqualHead.j0]
    exact Ev.pos (by simp) (Ev.now _)
  refine Same.up ?_
  simp only [spec_l13EqualHead.f, impl_equalHead.f]
  refine Same.ite Iff.rfl (fun _ => ?_) (fun _ => ⟨false, no, Ev.now _⟩)
  refine Same.bind (EqualTerm_same_ x.f1 y.f1 hs.p1 ht.p1) (fun t _ _ => ?_)
  refine Same.ite Iff.rfl (fun _ => ?_) (fun _ => ⟨false, no, Ev.now _⟩)
  refine Same.bind (Texts_same x.f2 y.f2 hs.p2.1) (fun t _ _ => ?_)
  refine Same.ite Iff.rfl (fun _ => ?_) (fun _ => ⟨false, no, Ev.now _⟩)
  by_cases hl : x.f3.length = y.f3.length
  · have loop : Same (fun k => spec_l13EqualHead.l0 k 0 x.f0 x.f1.f0 x.f1.f1 x.f1.f2 x.f1.f3.f0 x.f1.f3.f1 x.f1.f3.f2 x.f1.f4 x.f1.f5 x.f2 x.f3 x.f4.f0 y.f0 y.f1.f0 y.f1.f1 y.f1.f2 y.f1.f3.f0 y.f1.f3.f1 y.f1.f3.f2 y.f1.f4 y.f1.f5 y.f2 y.f3 y.f4.f0) (fun k => slices_EqualFunc_Head_of_equalHead.l0 k y.f3 x.f3 (x.f3.length : Int) 0) := by
      refine Same.loop0 x.f3.length (fun k i => spec_l13EqualHead.l0 k (i : Int) x.f0 x.f1.f0 x.f1.f1 x.f1.f2 x.f1.f3.f0 x.f1.f3.f1 x.f1.f3.f2 x.f1.f4 x.f1.f5 x.f2 x.f3 x.f4.f0 y.f0 y.f1.f0 y.f1.f1 y.f1.f2 y.f1.f3.f0 y.f1.f3.f1 y.f1.f3.f2 y.f1.f4 y.f1.f5 y.f2 y.f3 y.f4.f0) (fun k i => slices_EqualFunc_Head_of_equalHead.l0 k y.f3 x.f3 (x.f3.length : Int) (i : Int)) ?_ (fun i hi ihl => ?_)
      · refine Same.up ?_
        simp only [spec_l13EqualHead.l0, slices_EqualFunc_Head_of_equalHead.l0]
        exact Same.neg (by omega) (by omega) (Same.ret rfl)
      · refine Same.up ?_
        simp only [spec_l13EqualHead.l0, slices_EqualFunc_Head_of_equalHead.l0, w1' hi hs.p3.1]
        refine Same.pos (by omega) (by omega) (Same.pos (by omega) (by omega) (Same.posR (by omega) (Same.pos (by omega) (by omega) ?_)))
        refine Same.bind (ih (x.f3.getD i z47) (mem_getD x.f3 z47 i hi) (y.f3.getD i z47) (hs.p3.2 _ (mem_getD x.f3 z47 i hi)) (ht.p3.2 _ (mem_getD y.f3 z47 i (by omega)))) (fun t _ _ => ?_)
        exact Same.ite Iff.rfl (fun _ => ihl) (fun _ => Same.ret rfl)
    obtain ⟨r, h1, h2⟩ := loop
    have h2' : Ev (fun k => slices_EqualFunc_Head_of_equalHead.f k x.f3 y.f3) r := by
      refine Ev.up ?_
      simp only [slices_EqualFunc_Head_of_equalHead.f]
      exact Ev.pos (by omega) h2
    obtain ⟨q, q1, q2⟩ := EqualQuery_from x.f4.f0 y.f4.f0 hs.p4.1 hs.p4.2 ht.p4.2 (fun u hu v hv => ihq u hu v.f2 (hs.p4.2 u hu).2.2 (ht.p4.2 v hv).2.2)
    refine ⟨r && q, Ev.pos (by omega) (Ev.bind q1 ?_), Ev.bind h2' ?_⟩
    · cases q
      · rw [Bool.and_false]
        exact no
      · rw [Bool.and_true]
        refine Ev.up ?_
        simp only [spec_l13EqualHead.j0]
        exact Ev.neg (by decide) h1
    · cases r
      · exact Ev.neg (by decide) (Ev.now _)
      · exact Ev.pos rfl (Ev.bind q2 (Ev.now _))
  · refine ⟨false, Ev.neg (by omega) no, Ev.bind (a := false) ?_ (Ev.neg (by decide) (Ev.now _))⟩
    refine Ev.up ?_
    simp only [slices_EqualFunc_Head_of_equalHead.f]
    exact Ev.neg (by omega) (Ev.now _)
theorem EqualQuery_same (x : S29) (hs : SmQuery x) (y : S29) (ht : SmQuery y) : Same (fun k => spec_EqualQuery.f k x.f0 y.f0) (fun k => impl_EqualQuery.f k x.f0 y.f0) :=
  EqualQuery_from x.f0 y.f0 hs.1 hs.2 ht.2 (fun u hu v hv => EqualHead_same_ u.f2 v.f2 (hs.2 u hu).2.2 (ht.2 v hv).2.2)

end Go.Proofs.Ytpkppeicceehcaa.Px
end
section
namespace Go.Proofs.Ytpkppeicceehcaa.Px
open Go.RowKit Go.Proofs.YtpkppeicceehcaaW.PrintWords Go.Proofs.Ytpkppeicceehcaa.Pl
set_option linter.unusedVariables false
set_option linter.unusedSimpArgs false
theorem szHeadS_of (xs : List S71) (hx : xs.length ≤ maxLen) (h : ∀ y ∈ xs, ∀ left : Int, 0 ≤ left → left ≤ 1048576 → Ev (fun k => laws_szHead.f k (y.f0) (y.f1.f0) (y.f1.f1) (y.f1.f2) (y.f1.f3.f0) (y.f1.f3.f1) (y.f1.f3.f2) (y.f1.f4) (y.f1.f5) (y.f2) (y.f3) (y.f4.f0) left) (cut (wtHead y) left)) (left : Int) (h0 : 0 ≤ left) (hl : left ≤ 1048576) : Ev (fun k => laws_szHeadS.f k xs left) (cut (xs.length + wtHeadS xs) left) := by
  refine Ev.up ?_
  simp only [laws_szHeadS.f]
  have hs := cut_sub (n := xs.length) h0 hl hx
  by_cases hc : cut xs.length left < 0
  · exact Ev.pos (hs.1.2 hc) (Ev.const (cut_add' hc).symm)
  · refine Ev.neg (fun h => hc (hs.1.1 h)) ?_
    rw [hs.2 (by omega)]
    have hl2 := cut_le (n := xs.length) h0
    have hw := sz_loop xs.length (fun k i left => laws_szHead.f k ((rd_T71 xs (i : Int)).f0) ((rd_T71 xs (i : Int)).f1.f0) ((rd_T71 xs (i : Int)).f1.f1) ((rd_T71 xs (i : Int)).f1.f2) ((rd_T71 xs (i : Int)).f1.f3.f0) ((rd_T71 xs (i : Int)).f1.f3.f1) ((rd_T71 xs (i : Int)).f1.f3.f2) ((rd_T71 xs (i : Int)).f1.f4) ((rd_T71 xs (i : Int)).f1.f5) ((rd_T71 xs (i : Int)).f2) ((rd_T71 xs (i : Int)).f3) ((rd_T71 xs (i : Int)).f4.f0) left) (fun k left i => laws_szHeadS.l0 k xs left (i : Int)) (fun i => wtHead (xs.getD i z71)) (fun k left i hi => by
      simp only [laws_szHeadS.l0]
      rw [if_pos (by omega), if_pos (by omega), w1 hi hx]) (fun k left => by simp only [laws_szHeadS.l0]; rw [if_neg (by omega)]) (fun i left hi h0 hl => h _ (mem_getD xs z71 i hi) left h0 hl) xs.length 0 _ (by omega) (show 0 ≤ cut xs.length left by omega) (by omega)
    refine Ev.eq hw ?_
    rw [cut_add (by omega), sumF_list wtHead z71 xs xs.length 0 (by omega), wtHeadS_sum]
    rfl
theorem szCompS_of (xs : List S73) (hx : xs.length ≤ maxLen) (h : ∀ y ∈ xs, ∀ left : Int, 0 ≤ left → left ≤ 1048576 → Ev (fun k => laws_szComp.f k (y.f0) (y.f1.f0) (y.f1.f1) (y.f1.f2) (y.f1.f3.f0) (y.f1.f3.f1) (y.f1.f3.f2) (y.f1.f4) (y.f1.f5) (y.f2.f0) (y.f2.f1.f0) (y.f2.f1.f1) (y.f2.f1.f2) (y.f2.f1.f3.f0) (y.f2.f1.f3.f1) (y.f2.f1.f3.f2) (y.f2.f1.f4) (y.f2.f1.f5) (y.f2.f2) (y.f2.f3) (y.f2.f4.f0) left) (cut (wtComp y) left)) (left : Int) (h0 : 0 ≤ left) (hl : left ≤ 1048576) : Ev (fun k => laws_szCompS.f k xs left) (cut (xs.length + wtCompS xs) left) := by
  refine Ev.up ?_
  simp only [laws_szCompS.f]
  have hs := cut_sub (n := xs.length) h0 hl hx
  by_cases hc : cut xs.length left < 0
  · exact Ev.pos (hs.1.2 hc) (Ev.const (cut_add' hc).symm)
  · refine Ev.neg (fun h => hc (hs.1.1 h)) ?_
    rw [hs.2 (by omega)]
    have hl2 := cut_le (n := xs.length) h0
    have hw := sz_loop xs.length (fun k i left => laws_szComp.f k ((rd_T73 xs (i : Int)).f0) ((rd_T73 xs (i : Int)).f1.f0) ((rd_T73 xs (i : Int)).f1.f1) ((rd_T73 xs (i : Int)).f1.f2) ((rd_T73 xs (i : Int)).f1.f3.f0) ((rd_T73 xs (i : Int)).f1.f3.f1) ((rd_T73 xs (i : Int)).f1.f3.f2) ((rd_T73 xs (i : Int)).f1.f4) ((rd_T73 xs (i : Int)).f1.f5) ((rd_T73 xs (i : Int)).f2.f0) ((rd_T73 xs (i : Int)).f2.f1.f0) ((rd_T73 xs (i : Int)).f2.f1.f1) ((rd_T73 xs (i : Int)).f2.f1.f2) ((rd_T73 xs (i : Int)).f2.f1.f3.f0) ((rd_T73 xs (i : Int)).f2.f1.f3.f1) ((rd_T73 xs (i : Int)).f2.f1.f3.f2) ((rd_T73 xs (i : Int)).f2.f1.f4) ((rd_T73 xs (i : Int)).f2.f1.f5) ((rd_T73 xs (i : Int)).f2.f2) ((rd_T73 xs (i : Int)).f2.f3) ((rd_T73 xs (i : Int)).f2.f4.f0) left) (fun k left i => laws_szCompS.l0 k xs left (i : Int)) (fun i => wtComp (xs.getD i z73)) (fun k left i hi => by
      simp only [laws_szCompS.l0]
      rw [if_pos (by omega), if_pos (by omega), w1 hi hx]) (fun k left => by simp only [laws_szCompS.l0]; rw [if_neg (by omega)]) (fun i left hi h0 hl => h _ (mem_getD xs z73 i hi) left h0 hl) xs.length 0 _ (by omega) (show 0 ≤ cut xs.length left by omega) (by omega)
    refine Ev.eq hw ?_
    rw [cut_add (by omega), sumF_list wtComp z73 xs xs.length 0 (by omega), wtCompS_sum]
    rfl
theorem toHeadS_of (xs : List S71) (hx : xs.length ≤ 1048576) (h : ∀ y ∈ xs, Ev (fun k => laws_toHead.f k (y.f0) (y.f1.f0) (y.f1.f1) (y.f1.f2) (y.f1.f3.f0) (y.f1.f3.f1) (y.f1.f3.f2) (y.f1.f4) (y.f1.f5) (y.f2) (y.f3) (y.f4.f0)) ((cvHead y).f0, (cvHead y).f1.f0, (cvHead y).f1.f1, (cvHead y).f1.f2, (cvHead y).f1.f3.f0, (cvHead y).f1.f3.f1, (cvHead y).f1.f3.f2, (cvHead y).f1.f4, (cvHead y).f1.f5, (cvHead y).f2, (cvHead y).f3, (cvHead y).f4.f0)) : Ev (fun k => laws_toHeadS.f k xs) (cvHeadS xs) := by
  refine Ev.up ?_
  simp only [laws_toHeadS.f]
  refine Ev.pos (by omega) (Ev.pos (by omega) ?_)
  have hw := to_loop xs.length (fun k i => (laws_toHead.f k ((rd_T71 xs (i : Int)).f0) ((rd_T71 xs (i : Int)).f1.f0) ((rd_T71 xs (i : Int)).f1.f1) ((rd_T71 xs (i : Int)).f1.f2) ((rd_T71 xs (i : Int)).f1.f3.f0) ((rd_T71 xs (i : Int)).f1.f3.f1) ((rd_T71 xs (i : Int)).f1.f3.f2) ((rd_T71 xs (i : Int)).f1.f4) ((rd_T71 xs (i : Int)).f1.f5) ((rd_T71 xs (i : Int)).f2) ((rd_T71 xs (i : Int)).f3) ((rd_T71 xs (i : Int)).f4.f0)).map fun t => (⟨t.1, (⟨t.2.1, t.2.2.1, t.2.2.2.1, (⟨t.2.2.2.2.1, t.2.2.2.2.2.1, t.2.2.2.2.2.2.1⟩ : S41), t.2.2.2.2.2.2.2.1, t.2.2.2.2.2.2.2.2.1⟩ : S44), t.2.2.2.2.2.2.2.2.2.1, t.2.2.2.2.2.2.2.2.2.2.1, (⟨t.2.2.2.2.2.2.2.2.2.2.2⟩ : S29)⟩ : S47)) (fun k out i => laws_toHeadS.l0 k xs out (i : Int)) (fun i => cvHead (xs.getD i z71)) (fun k out i hi hl => by
    simp only [laws_toHeadS.l0]
    rw [if_pos (by omega), if_pos (by omega)]
    rcases laws_toHead.f k ((rd_T71 xs (i : Int)).f0) ((rd_T71 xs (i : Int)).f1.f0) ((rd_T71 xs (i : Int)).f1.f1) ((rd_T71 xs (i : Int)).f1.f2) ((rd_T71 xs (i : Int)).f1.f3.f0) ((rd_T71 xs (i : Int)).f1.f3.f1) ((rd_T71 xs (i : Int)).f1.f3.f2) ((rd_T71 xs (i : Int)).f1.f4) ((rd_T71 xs (i : Int)).f1.f5) ((rd_T71 xs (i : Int)).f2) ((rd_T71 xs (i : Int)).f3) ((rd_T71 xs (i : Int)).f4.f0) with _ | t
    · rfl
    · simp only [Option.map_some, Option.bind_some]
      rw [if_pos (by omega), w1' hi hx]
      rfl) (fun k out => by simp only [laws_toHeadS.l0]; rw [if_neg (by omega)]) (fun i hi => Ev.eq (Ev.map (fun t => (⟨t.1, (⟨t.2.1, t.2.2.1, t.2.2.2.1, (⟨t.2.2.2.2.1, t.2.2.2.2.2.1, t.2.2.2.2.2.2.1⟩ : S41), t.2.2.2.2.2.2.2.1, t.2.2.2.2.2.2.2.2.1⟩ : S44), t.2.2.2.2.2.2.2.2.2.1, t.2.2.2.2.2.2.2.2.2.2.1, (⟨t.2.2.2.2.2.2.2.2.2.2.2⟩ : S29)⟩ : S47)) (h _ (mem_getD xs z71 i hi))) (etaHead _)) xs.length 0 (List.replicate ((xs.length : Int)).toNat z47) (by omega) (by simp)
  refine Ev.eq hw ?_
  rw [List.take_zero, List.nil_append, range_map_getElem cvHead z71 xs, cvHeadS_map]
theorem toCompS_of (xs : List S73) (hx : xs.length ≤ 1048576) (h : ∀ y ∈ xs, Ev (fun k => laws_toComp.f k (y.f0) (y.f1.f0) (y.f1.f1) (y.f1.f2) (y.f1.f3.f0) (y.f1.f3.f1) (y.f1.f3.f2) (y.f1.f4) (y.f1.f5) (y.f2.f0) (y.f2.f1.f0) (y.f2.f1.f1) (y.f2.f1.f2) (y.f2.f1.f3.f0) (y.f2.f1.f3.f1) (y.f2.f1.f3.f2) (y.f2.f1.f4) (y.f2.f1.f5) (y.f2.f2) (y.f2.f3) (y.f2.f4.f0)) ((cvComp y).f0, (cvComp y).f1.f0, (cvComp y).f1.f1, (cvComp y).f1.f2, (cvComp y).f1.f3.f0, (cvComp y).f1.f3.f1, (cvComp y).f1.f3.f2, (cvComp y).f1.f4, (cvComp y).f1.f5, (cvComp y).f2.f0, (cvComp y).f2.f1.f0, (cvComp y).f2.f1.f1, (cvComp y).f2.f1.f2, (cvComp y).f2.f1.f3.f0, (cvComp y).f2.f1.f3.f1, (cvComp y).f2.f1.f3.f2, (cvComp y).f2.f1.f4, (cvComp y).f2.f1.f5, (cvComp y).f2.f2, (cvComp y).f2.f3, (cvComp y).f2.f4.f0)) : Ev (fun k => laws_toCompS.f k xs) (cvCompS xs) := by
  refine Ev.up ?_
  simp only [laws_toCompS.f]
  refine Ev.pos (by omega) (Ev.pos (by omega) ?_)
  have hw := to_loop xs.length (fun k i => (laws_toComp.f k ((rd_T73 xs (i : Int)).f0) ((rd_T73 xs (i : Int)).f1.f0) ((rd_T73 xs (i : Int)).f1.f1) ((rd_T73 xs (i : Int)).f1.f2) ((rd_T73 xs (i : Int)).f1.f3.f0) ((rd_T73 xs (i : Int)).f1.f3.f1) ((rd_T73 xs (i : Int)).f1.f3.f2) ((rd_T73 xs (i : Int)).f1.f4) ((rd_T73 xs (i : Int)).f1.f5) ((rd_T73 xs (i : Int)).f2.f0) ((rd_T73 xs (i : Int)).f2.f1.f0) ((rd_T73 xs (i : Int)).f2.f1.f1) ((rd_T73 xs (i : Int)).f2.f1.f2) ((rd_T73 xs (i : Int)).f2.f1.f3.f0) ((rd_T73 xs (i : Int)).f2.f1.f3.f1) ((rd_T73 xs (i : Int)).f2.f1.f3.f2) ((rd_T73 xs (i : Int)).f2.f1.f4) ((rd_T73 xs (i : Int)).f2.f1.f5) ((rd_T73 xs (i : Int)).f2.f2) ((rd_T73 xs (i : Int)).f2.f3) ((rd_T73 xs (i : Int)).f2.f4.f0)).map fun t => (⟨t.1, (⟨t.2.1, t.2.2.1, t.2.2.2.1, (⟨t.2.2.2.2.1, t.2.2.2.2.2.1, t.2.2.2.2.2.2.1⟩ : S41), t.2.2.2.2.2.2.2.1, t.2.2.2.2.2.2.2.2.1⟩ : S44), (⟨t.2.2.2.2.2.2.2.2.2.1, (⟨t.2.2.2.2.2.2.2.2.2.2.1, t.2.2.2.2.2.2.2.2.2.2.2.1, t.2.2.2.2.2.2.2.2.2.2.2.2.1, (⟨t.2.2.2.2.2.2.2.2.2.2.2.2.2.1, t.2.2.2.2.2.2.2.2.2.2.2.2.2.2.1, t.2.2.2.2.2.2.2.2.2.2.2.2.2.2.2.1⟩ : S41), t.2.2.2.2.2.2.2.2.2.2.2.2.2.2.2.2.1, t.2.2.2.2.2.2.2.2.2.2.2.2.2.2.2.2.2.1⟩ : S44), t.2.2.2.2.2.2.2.2.2.2.2.2.2.2.2.2.2.2.1, t.2.2.2.2.2.2.2.2.2.2.2.2.2.2.2.2.2.2.2.1, (⟨t.2.2.2.2.2.2.2.2.2.2.2.2.2.2.2.2.2.2.2.2⟩ : S29)⟩ : S47)⟩ : S49)) (fun k out i => laws_toCompS.l0 k xs out (i : Int)) (fun i => cvComp (xs.getD i z73)) (fun k out i hi hl => by
    simp only [laws_toCompS.l0]
    rw [if_pos (by omega), if_pos (by omega)]
    rcases laws_toComp.f k ((rd_T73 xs (i : Int)).f0) ((rd_T73 xs (i : Int)).f1.f0) ((rd_T73 xs (i : Int)).f1.f1) ((rd_T73 xs (i : Int)).f1.f2) ((rd_T73 xs (i : Int)).f1.f3.f0) ((rd_T73 xs (i : Int)).f1.f3.f1) ((rd_T73 xs (i : Int)).f1.f3.f2) ((rd_T73 xs (i : Int)).f1.f4) ((rd_T73 xs (i : Int)).f1.f5) ((rd_T73 xs (i : Int)).f2.f0) ((rd_T73 xs (i : Int)).f2.f1.f0) ((rd_T73 xs (i : Int)).f2.f1.f1) ((rd_T73 xs (i : Int)).f2.f1.f2) ((rd_T73 xs (i : Int)).f2.f1.f3.f0) ((rd_T73 xs (i : Int)).f2.f1.f3.f1) ((rd_T73 xs (i : Int)).f2.f1.f3.f2) ((rd_T73 xs (i : Int)).f2.f1.f4) ((rd_T73 xs (i : Int)).f2.f1.f5) ((rd_T73 xs (i : Int)).f2.f2) ((rd_T73 xs (i : Int)).f2.f3) ((rd_T73 xs (i : Int)).f2.f4.f0) with _ | t
    · rfl
    · simp only [Option.map_some, Option.bind_some]
      rw [if_pos (by omega), w1' hi hx]
      rfl) (fun k out => by simp only [laws_toCompS.l0]; rw [if_neg (by omega)]) (fun i hi => Ev.eq (Ev.map (fun t => (⟨t.1, (⟨t.2.1, t.2.2.1, t.2.2.2.1, (⟨t.2.2.2.2.1, t.2.2.2.2.2.1, t.2.2.2.2.2.2.1⟩ : S41), t.2.2.2.2.2.2.2.1, t.2.2.2.2.2.2.2.2.1⟩ : S44), (⟨t.2.2.2.2.2.2.2.2.2.1, (⟨t.2.2.2.2.2.2.2.2.2.2.1, t.2.2.2.2.2.2.2.2.2.2.2.1, t.2.2.2.2.2.2.2.2.2.2.2.2.1, (⟨t.2.2.2.2.2.2.2.2.2.2.2.2.2.1, t.2.2.2.2.2.2.2.2.2.2.2.2.2.2.1, t.2.2.2.2.2.2.2.2.2.2.2.2.2.2.2.1⟩ : S41), t.2.2.2.2.2.2.2.2.2.2.2.2.2.2.2.2.1, t.2.2.2.2.2.2.2.2.2.2.2.2.2.2.2.2.2.1⟩ : S44), t.2.2.2.2.2.2.2.2.2.2.2.2.2.2.2.2.2.2.1, t.2.2.2.2.2.2.2.2.2.2.2.2.2.2.2.2.2.2.2.1, (⟨t.2.2.2.2.2.2.2.2.2.2.2.2.2.2.2.2.2.2.2.2⟩ : S29)⟩ : S47)⟩ : S49)) (h _ (mem_getD xs z73 i hi))) (etaComp _)) xs.length 0 (List.replicate ((xs.length : Int)).toNat z49) (by omega) (by simp)
  refine Ev.eq hw ?_
  rw [List.take_zero, List.nil_append, range_map_getElem cvComp z73 xs, cvCompS_map]
theorem eqHeadS_of (xs : List S47) (hx : xs.length ≤ 1048576) (h : ∀ y ∈ xs, Ev (fun k => laws_eqHead.f k (y.f0) (y.f1.f0) (y.f1.f1) (y.f1.f2) (y.f1.f3.f0) (y.f1.f3.f1) (y.f1.f3.f2) (y.f1.f4) (y.f1.f5) (y.f2) (y.f3) (y.f4.f0) (y.f0) (y.f1.f0) (y.f1.f1) (y.f1.f2) (y.f1.f3.f0) (y.f1.f3.f1) (y.f1.f3.f2) (y.f1.f4) (y.f1.f5) (y.f2) (y.f3) (y.f4.f0)) true) : Ev (fun k => laws_eqHeadS.f k xs xs) true := by
  refine Ev.up ?_
  simp only [laws_eqHeadS.f]
  refine Ev.pos (by simp) ?_
  exact eq_loop xs.length (fun k i => laws_eqHead.f k ((rd_T47 xs (i : Int)).f0) ((rd_T47 xs (i : Int)).f1.f0) ((rd_T47 xs (i : Int)).f1.f1) ((rd_T47 xs (i : Int)).f1.f2) ((rd_T47 xs (i : Int)).f1.f3.f0) ((rd_T47 xs (i : Int)).f1.f3.f1) ((rd_T47 xs (i : Int)).f1.f3.f2) ((rd_T47 xs (i : Int)).f1.f4) ((rd_T47 xs (i : Int)).f1.f5) ((rd_T47 xs (i : Int)).f2) ((rd_T47 xs (i : Int)).f3) ((rd_T47 xs (i : Int)).f4.f0) ((rd_T47 xs (i : Int)).f0) ((rd_T47 xs (i : Int)).f1.f0) ((rd_T47 xs (i : Int)).f1.f1) ((rd_T47 xs (i : Int)).f1.f2) ((rd_T47 xs (i : Int)).f1.f3.f0) ((rd_T47 xs (i : Int)).f1.f3.f1) ((rd_T47 xs (i : Int)).f1.f3.f2) ((rd_T47 xs (i : Int)).f1.f4) ((rd_T47 xs (i : Int)).f1.f5) ((rd_T47 xs (i : Int)).f2) ((rd_T47 xs (i : Int)).f3) ((rd_T47 xs (i : Int)).f4.f0)) (fun k i => laws_eqHeadS.l0 k xs xs (i : Int)) (fun k i hi => by
    simp only [laws_eqHeadS.l0]
    rw [if_pos (by omega), if_pos (by omega), if_pos (by omega), w1' hi hx]) (fun k => by simp only [laws_eqHeadS.l0]; rw [if_neg (by omega)]) (fun i hi => h _ (mem_getD xs z47 i hi)) xs.length 0 (by omega)
theorem eqCompS_of (xs : List S49) (hx : xs.length ≤ 1048576) (h : ∀ y ∈ xs, Ev (fun k => laws_eqComp.f k (y.f0) (y.f1.f0) (y.f1.f1) (y.f1.f2) (y.f1.f3.f0) (y.f1.f3.f1) (y.f1.f3.f2) (y.f1.f4) (y.f1.f5) (y.f2.f0) (y.f2.f1.f0) (y.f2.f1.f1) (y.f2.f1.f2) (y.f2.f1.f3.f0) (y.f2.f1.f3.f1) (y.f2.f1.f3.f2) (y.f2.f1.f4) (y.f2.f1.f5) (y.f2.f2) (y.f2.f3) (y.f2.f4.f0) (y.f0) (y.f1.f0) (y.f1.f1) (y.f1.f2) (y.f1.f3.f0) (y.f1.f3.f1) (y.f1.f3.f2) (y.f1.f4) (y.f1.f5) (y.f2.f0) (y.f2.f1.f0) (y.f2.f1.f1) (y.f2.f1.f2) (y.f2.f1.f3.f0) (y.f2.f1.f3.f1) (y.f2.f1.f3.f2) (y.f2.f1.f4) (y.f2.f1.f5) (y.f2.f2) (y.f2.f3) (y.f2.f4.f0)) true) : Ev (fun k => laws_eqCompS.f k xs xs) true := by
  refine Ev.up ?_
  simp only [laws_eqCompS.f]
  refine Ev.pos (by simp) ?_
  exact eq_loop xs.length (fun k i => laws_eqComp.f k ((rd_T49 xs (i : Int)).f0) ((rd_T49 xs (i : Int)).f1.f0) ((rd_T49 xs (i : Int)).f1.f1) ((rd_T49 xs (i : Int)).f1.f2) ((rd_T49 xs (i : Int)).f1.f3.f0) ((rd_T49 xs (i : Int)).f1.f3.f1) ((rd_T49 xs (i : Int)).f1.f3.f2) ((rd_T49 xs (i : Int)).f1.f4) ((rd_T49 xs (i : Int)).f1.f5) ((rd_T49 xs (i : Int)).f2.f0) ((rd_T49 xs (i : Int)).f2.f1.f0) ((rd_T49 xs (i : Int)).f2.f1.f1) ((rd_T49 xs (i : Int)).f2.f1.f2) ((rd_T49 xs (i : Int)).f2.f1.f3.f0) ((rd_T49 xs (i : Int)).f2.f1.f3.f1) ((rd_T49 xs (i : Int)).f2.f1.f3.f2) ((rd_T49 xs (i : Int)).f2.f1.f4) ((rd_T49 xs (i : Int)).f2.f1.f5) ((rd_T49 xs (i : Int)).f2.f2) ((rd_T49 xs (i : Int)).f2.f3) ((rd_T49 xs (i : Int)).f2.f4.f0) ((rd_T49 xs (i : Int)).f0) ((rd_T49 xs (i : Int)).f1.f0) ((rd_T49 xs (i : Int)).f1.f1) ((rd_T49 xs (i : Int)).f1.f2) ((rd_T49 xs (i : Int)).f1.f3.f0) ((rd_T49 xs (i : Int)).f1.f3.f1) ((rd_T49 xs (i : Int)).f1.f3.f2) ((rd_T49 xs (i : Int)).f1.f4) ((rd_T49 xs (i : Int)).f1.f5) ((rd_T49 xs (i : Int)).f2.f0) ((rd_T49 xs (i : Int)).f2.f1.f0) ((rd_T49 xs (i : Int)).f2.f1.f1) ((rd_T49 xs (i : Int)).f2.f1.f2) ((rd_T49 xs (i : Int)).f2.f1.f3.f0) ((rd_T49 xs (i : Int)).f2.f1.f3.f1) ((rd_T49 xs (i : Int)).f2.f1.f3.f2) ((rd_T49 xs (i : Int)).f2.f1.f4) ((rd_T49 xs (i : Int)).f2.f1.f5) ((rd_T49 xs (i : Int)).f2.f2) ((rd_T49 xs (i : Int)).f2.f3) ((rd_T49 xs (i : Int)).f2.f4.f0)) (fun k i => laws_eqCompS.l0 k xs xs (i : Int)) (fun k i hi => by
    simp only [laws_eqCompS.l0]
    rw [if_pos (by omega), if_pos (by omega), if_pos (by omega), w1' hi hx]) (fun k => by simp only [laws_eqCompS.l0]; rw [if_neg (by omega)]) (fun i hi => h _ (mem_getD xs z49 i hi)) xs.length 0 (by omega)
theorem szComp_of (x : S73) (hw : W73 x) (h : ∀ left : Int, 0 ≤ left → left ≤ 1048576 → Ev (fun k => laws_szHead.f k (x.f2.f0) (x.f2.f1.f0) (x.f2.f1.f1) (x.f2.f1.f2) (x.f2.f1.f3.f0) (x.f2.f1.f3.f1) (x.f2.f1.f3.f2) (x.f2.f1.f4) (x.f2.f1.f5) (x.f2.f2) (x.f2.f3) (x.f2.f4.f0) left) (cut (wtHead x.f2) left)) : ∀ left : Int, 0 ≤ left → left ≤ 1048576 → Ev (fun k => laws_szComp.f k (x.f0) (x.f1.f0) (x.f1.f1) (x.f1.f2) (x.f1.f3.f0) (x.f1.f3.f1) (x.f1.f3.f2) (x.f1.f4) (x.f1.f5) (x.f2.f0) (x.f2.f1.f0) (x.f2.f1.f1) (x.f2.f1.f2) (x.f2.f1.f3.f0) (x.f2.f1.f3.f1) (x.f2.f1.f3.f2) (x.f2.f1.f4) (x.f2.f1.f5) (x.f2.f2) (x.f2.f3) (x.f2.f4.f0) left) (cut (wtComp x) left) := by
  intro left h0 hl
  refine Ev.up ?_
  simp only [laws_szComp.f]
  rw [wtComp_eq]
  have hb0 : (0 : Int) ≤ left ∧ left ≤ 1048576 := ⟨h0, hl⟩
  refine Ev.bind (szGenS_of x.f0 hw.1.1 (fun y hy => szGen_ev y (hw.1.2 y hy)) _ hb0.1 hb0.2) ?_
  by_cases hc0 : cut ((x.f0.length + wtGenS x.f0)) left < 0
  · refine Ev.pos hc0 (Ev.const ?_)
    have hn : cut ((x.f0.length + wtGenS x.f0)) left < 0 := hc0
    have hn : cut ((x.f0.length + wtGenS x.f0) + wtTerm x.f1) left < 0 := by rw [cut_add' hn]; omega
    have hn : cut ((x.f0.length + wtGenS x.f0) + wtTerm x.f1 + wtHead x.f2) left < 0 := by rw [cut_add' hn]; omega
    have hv := cut_neg.1 hn; unfold cut; rw [if_neg hv]
  refine Ev.neg hc0 ?_
  have hb1 : (0 : Int) ≤ cut ((x.f0.length + wtGenS x.f0)) left ∧ cut ((x.f0.length + wtGenS x.f0)) left ≤ 1048576 := ⟨by omega, by have := cut_le (n := (x.f0.length + wtGenS x.f0)) h0; omega⟩
  refine Ev.bind (szTerm_ev x.f1 hw.2.1 _ hb1.1 hb1.2) ?_
  by_cases hc1 : cut (wtTerm x.f1) (cut ((x.f0.length + wtGenS x.f0)) left) < 0
  · refine Ev.pos hc1 (Ev.const ?_)
    have hn : cut ((x.f0.length + wtGenS x.f0) + wtTerm x.f1) left < 0 := by rw [← cut_add (by omega)]; exact hc1
    have hn : cut ((x.f0.length + wtGenS x.f0) + wtTerm x.f1 + wtHead x.f2) left < 0 := by rw [cut_add' hn]; omega
    have hv := cut_neg.1 hn; unfold cut; rw [if_neg hv]
  refine Ev.neg hc1 ?_
  rw [cut_add (by omega)] at hc1 ⊢
  have hb2 : (0 : Int) ≤ cut ((x.f0.length + wtGenS x.f0) + wtTerm x.f1) left ∧ cut ((x.f0.length + wtGenS x.f0) + wtTerm x.f1) left ≤ 1048576 := ⟨by omega, by have := cut_le (n := (x.f0.length + wtGenS x.f0) + wtTerm x.f1) h0; omega⟩
  refine Ev.bind (h _ hb2.1 hb2.2) ?_
  by_cases hc2 : cut (wtHead x.f2) (cut ((x.f0.length + wtGenS x.f0) + wtTerm x.f1) left) < 0
  · refine Ev.pos hc2 (Ev.const ?_)
    have hn : cut ((x.f0.length + wtGenS x.f0) + wtTerm x.f1 + wtHead x.f2) left < 0 := by rw [← cut_add (by omega)]; exact hc2
    have hv := cut_neg.1 hn; unfold cut; rw [if_neg hv]
  refine Ev.neg hc2 ?_
  rw [cut_add (by omega)] at hc2 ⊢
  have hb3 : (0 : Int) ≤ cut ((x.f0.length + wtGenS x.f0) + wtTerm x.f1 + wtHead x.f2) left ∧ cut ((x.f0.length + wtGenS x.f0) + wtTerm x.f1 + wtHead x.f2) left ≤ 1048576 := ⟨by omega, by have := cut_le (n := (x.f0.length + wtGenS x.f0) + wtTerm x.f1 + wtHead x.f2) h0; omega⟩
  exact Ev.const rfl
theorem szQuery_of (x : S24) (hw : W24 x) (h : ∀ y ∈ x.f0, ∀ left : Int, 0 ≤ left → left ≤ 1048576 → Ev (fun k => laws_szComp.f k (y.f0) (y.f1.f0) (y.f1.f1) (y.f1.f2) (y.f1.f3.f0) (y.f1.f3.f1) (y.f1.f3.f2) (y.f1.f4) (y.f1.f5) (y.f2.f0) (y.f2.f1.f0) (y.f2.f1.f1) (y.f2.f1.f2) (y.f2.f1.f3.f0) (y.f2.f1.f3.f1) (y.f2.f1.f3.f2) (y.f2.f1.f4) (y.f2.f1.f5) (y.f2.f2) (y.f2.f3) (y.f2.f4.f0) left) (cut (wtComp y) left)) : ∀ left : Int, 0 ≤ left → left ≤ 1048576 → Ev (fun k => laws_szQuery.f k (x.f0) left) (cut (wtQuery x) left) := by
  intro left h0 hl
  refine Ev.up ?_
  simp only [laws_szQuery.f]
  rw [wtQuery_eq]
  have hb0 : (0 : Int) ≤ left ∧ left ≤ 1048576 := ⟨h0, hl⟩
  refine Ev.bind (szCompS_of x.f0 hw.1 h _ hb0.1 hb0.2) ?_
  by_cases hc0 : cut ((x.f0.length + wtCompS x.f0)) left < 0
  · refine Ev.pos hc0 (Ev.const ?_)
    have hn : cut ((x.f0.length + wtCompS x.f0)) left < 0 := hc0
    have hv := cut_neg.1 hn; unfold cut; rw [if_neg hv]
  refine Ev.neg hc0 ?_
  have hb1 : (0 : Int) ≤ cut ((x.f0.length + wtCompS x.f0)) left ∧ cut ((x.f0.length + wtCompS x.f0)) left ≤ 1048576 := ⟨by omega, by have := cut_le (n := (x.f0.length + wtCompS x.f0)) h0; omega⟩
  exact Ev.const rfl
theorem szHead_ev : ∀ x : S71, W71 x → ∀ left : Int, 0 ≤ left → left ≤ 1048576 → Ev (fun k => laws_szHead.f k (x.f0) (x.f1.f0) (x.f1.f1) (x.f1.f2) (x.f1.f3.f0) (x.f1.f3.f1) (x.f1.f3.f2) (x.f1.f4) (x.f1.f5) (x.f2) (x.f3) (x.f4.f0) left) (cut (wtHead x) left) := by
  refine indHeadL fun x ih ihq hw left h0 hl => ?_
  refine Ev.up ?_
  simp only [laws_szHead.f]
  rw [wtHead_eq]
  have hb0 : (0 : Int) ≤ left ∧ left ≤ 1048576 := ⟨h0, hl⟩
  refine Ev.bind (szTerm_ev x.f1 hw.p1 _ hb0.1 hb0.2) ?_
  by_cases hc0 : cut (wtTerm x.f1) left < 0
  · refine Ev.pos hc0 (Ev.const ?_)
    have hn : cut (wtTerm x.f1) left < 0 := hc0
    have hn : cut (wtTerm x.f1 + wts x.f2) left < 0 := by rw [cut_add' hn]; omega
    have hn : cut (wtTerm x.f1 + wts x.f2 + (x.f3.length + wtHeadS x.f3)) left < 0 := by rw [cut_add' hn]; omega
    have hn : cut (wtTerm x.f1 + wts x.f2 + (x.f3.length + wtHeadS x.f3) + wtQuery x.f4) left < 0 := by rw [cut_add' hn]; omega
    have hv := cut_neg.1 hn; unfold cut; rw [if_neg hv]
  refine Ev.neg hc0 ?_
  have hb1 : (0 : Int) ≤ cut (wtTerm x.f1) left ∧ cut (wtTerm x.f1) left ≤ 1048576 := ⟨by omega, by have := cut_le (n := wtTerm x.f1) h0; omega⟩
  refine Ev.bind (szStringS_ev x.f2 hw.p2 _ hb1.1 hb1.2) ?_
  by_cases hc1 : cut (wts x.f2) (cut (wtTerm x.f1) left) < 0
  · refine Ev.pos hc1 (Ev.const ?_)
    have hn : cut (wtTerm x.f1 + wts x.f2) left < 0 := by rw [← cut_add (by omega)]; exact hc1
    have hn : cut (wtTerm x.f1 + wts x.f2 + (x.f3.length + wtHeadS x.f3)) left < 0 := by rw [cut_add' hn]; omega
    have hn : cut (wtTerm x.f1 + wts x.f2 + (x.f3.length + wtHeadS x.f3) + wtQuery x.f4) left < 0 := by rw [cut_add' hn]; omega
    have hv := cut_neg.1 hn; unfold cut; rw [if_neg hv]
  refine Ev.neg hc1 ?_
  rw [cut_add (by omega)] at hc1 ⊢
  have hb2 : (0 : Int) ≤ cut (wtTerm x.f1 + wts x.f2) left ∧ cut (wtTerm x.f1 + wts x.f2) left ≤ 1048576 := ⟨by omega, by have := cut_le (n := wtTerm x.f1 + wts x.f2) h0; omega⟩
  refine Ev.bind (szHeadS_of x.f3 hw.p3.1 (fun y hy => ih y hy (hw.p3.2 y hy)) _ hb2.1 hb2.2) ?_
  by_cases hc2 : cut ((x.f3.length + wtHeadS x.f3)) (cut (wtTerm x.f1 + wts x.f2) left) < 0
  · refine Ev.pos hc2 (Ev.const ?_)
    have hn : cut (wtTerm x.f1 + wts x.f2 + (x.f3.length + wtHeadS x.f3)) left < 0 := by rw [← cut_add (by omega)]; exact hc2
    have hn : cut (wtTerm x.f1 + wts x.f2 + (x.f3.length + wtHeadS x.f3) + wtQuery x.f4) left < 0 := by rw [cut_add' hn]; omega
    have hv := cut_neg.1 hn; unfold cut; rw [if_neg hv]
  refine Ev.neg hc2 ?_
  rw [cut_add (by omega)] at hc2 ⊢
  have hb3 : (0 : Int) ≤ cut (wtTerm x.f1 + wts x.f2 + (x.f3.length + wtHeadS x.f3)) left ∧ cut (wtTerm x.f1 + wts x.f2 + (x.f3.length + wtHeadS x.f3)) left ≤ 1048576 := ⟨by omega, by have := cut_le (n := wtTerm x.f1 + wts x.f2 + (x.f3.length + wtHeadS x.f3)) h0; omega⟩
  refine Ev.bind (szQuery_of x.f4 hw.p4 (fun y hy => szComp_of y (hw.p4.2 y hy) (ihq y hy (hw.p4.2 y hy).2.2)) _ hb3.1 hb3.2) ?_
  by_cases hc3 : cut (wtQuery x.f4) (cut (wtTerm x.f1 + wts x.f2 + (x.f3.length + wtHeadS x.f3)) left) < 0
  · refine Ev.pos hc3 (Ev.const ?_)
    have hn : cut (wtTerm x.f1 + wts x.f2 + (x.f3.length + wtHeadS x.f3) + wtQuery x.f4) left < 0 := by rw [← cut_add (by omega)]; exact hc3
    have hv := cut_neg.1 hn; unfold cut; rw [if_neg hv]
  refine Ev.neg hc3 ?_
  rw [cut_add (by omega)] at hc3 ⊢
  have hb4 : (0 : Int) ≤ cut (wtTerm x.f1 + wts x.f2 + (x.f3.length + wtHeadS x.f3) + wtQuery x.f4) left ∧ cut (wtTerm x.f1 + wts x.f2 + (x.f3.length + wtHeadS x.f3) + wtQuery x.f4) left ≤ 1048576 := ⟨by omega, by have := cut_le (n := wtTerm x.f1 + wts x.f2 + (x.f3.length + wtHeadS x.f3) + wtQuery x.f4) h0; omega⟩
  exact Ev.const rfl
theorem szComp_ev (x : S73) (hw : W73 x) : ∀ left : Int, 0 ≤ left → left ≤ 1048576 → Ev (fun k => laws_szComp.f k (x.f0) (x.f1.f0) (x.f1.f1) (x.f1.f2) (x.f1.f3.f0) (x.f1.f3.f1) (x.f1.f3.f2) (x.f1.f4) (x.f1.f5) (x.f2.f0) (x.f2.f1.f0) (x.f2.f1.f1) (x.f2.f1.f2) (x.f2.f1.f3.f0) (x.f2.f1.f3.f1) (x.f2.f1.f3.f2) (x.f2.f1.f4) (x.f2.f1.f5) (x.f2.f2) (x.f2.f3) (x.f2.f4.f0) left) (cut (wtComp x) left) := szComp_of x hw (szHead_ev x.f2 hw.2.2)
theorem szQuery_ev (x : S24) (hw : W24 x) : ∀ left : Int, 0 ≤ left → left ≤ 1048576 → Ev (fun k => laws_szQuery.f k x.f0 left) (cut (wtQuery x) left) := szQuery_of x hw (fun y hy => szComp_ev y (hw.2 y hy))
theorem toComp_of (x : S73) (hw2 : wtComp x ≤ 1048576) (h : wtHead x.f2 ≤ 1048576 → Ev (fun k => laws_toHead.f k (x.f2.f0) (x.f2.f1.f0) (x.f2.f1.f1) (x.f2.f1.f2) (x.f2.f1.f3.f0) (x.f2.f1.f3.f1) (x.f2.f1.f3.f2) (x.f2.f1.f4) (x.f2.f1.f5) (x.f2.f2) (x.f2.f3) (x.f2.f4.f0)) ((cvHead x.f2).f0, (cvHead x.f2).f1.f0, (cvHead x.f2).f1.f1, (cvHead x.f2).f1.f2, (cvHead x.f2).f1.f3.f0, (cvHead x.f2).f1.f3.f1, (cvHead x.f2).f1.f3.f2, (cvHead x.f2).f1.f4, (cvHead x.f2).f1.f5, (cvHead x.f2).f2, (cvHead x.f2).f3, (cvHead x.f2).f4.f0)) : Ev (fun k => laws_toComp.f k (x.f0) (x.f1.f0) (x.f1.f1) (x.f1.f2) (x.f1.f3.f0) (x.f1.f3.f1) (x.f1.f3.f2) (x.f1.f4) (x.f1.f5) (x.f2.f0) (x.f2.f1.f0) (x.f2.f1.f1) (x.f2.f1.f2) (x.f2.f1.f3.f0) (x.f2.f1.f3.f1) (x.f2.f1.f3.f2) (x.f2.f1.f4) (x.f2.f1.f5) (x.f2.f2) (x.f2.f3) (x.f2.f4.f0)) ((cvComp x).f0, (cvComp x).f1.f0, (cvComp x).f1.f1, (cvComp x).f1.f2, (cvComp x).f1.f3.f0, (cvComp x).f1.f3.f1, (cvComp x).f1.f3.f2, (cvComp x).f1.f4, (cvComp x).f1.f5, (cvComp x).f2.f0, (cvComp x).f2.f1.f0, (cvComp x).f2.f1.f1, (cvComp x).f2.f1.f2, (cvComp x).f2.f1.f3.f0, (cvComp x).f2.f1.f3.f1, (cvComp x).f2.f1.f3.f2, (cvComp x).f2.f1.f4, (cvComp x).f2.f1.f5, (cvComp x).f2.f2, (cvComp x).f2.f3, (cvComp x).f2.f4.f0) := by
  refine Ev.up ?_
  simp only [laws_toComp.f]
  have hb := hw2
  rw [wtComp_eq] at hb
  refine Ev.bind (toGenS_of x.f0 (by omega) (fun y hy => toGen_ev y (by have := sum_le_of_mem wtGen hy; rw [← wtGenS_sum] at this; omega))) ?_
  refine Ev.bind (toTerm_ev x.f1 (by omega)) ?_
  refine Ev.bind (h (by omega)) ?_
  exact Ev.const (by rw [cvComp_eq])
theorem toQuery_of (x : S24) (hw2 : wtQuery x ≤ 1048576) (h : ∀ y ∈ x.f0, wtComp y ≤ 1048576 → Ev (fun k => laws_toComp.f k (y.f0) (y.f1.f0) (y.f1.f1) (y.f1.f2) (y.f1.f3.f0) (y.f1.f3.f1) (y.f1.f3.f2) (y.f1.f4) (y.f1.f5) (y.f2.f0) (y.f2.f1.f0) (y.f2.f1.f1) (y.f2.f1.f2) (y.f2.f1.f3.f0) (y.f2.f1.f3.f1) (y.f2.f1.f3.f2) (y.f2.f1.f4) (y.f2.f1.f5) (y.f2.f2) (y.f2.f3) (y.f2.f4.f0)) ((cvComp y).f0, (cvComp y).f1.f0, (cvComp y).f1.f1, (cvComp y).f1.f2, (cvComp y).f1.f3.f0, (cvComp y).f1.f3.f1, (cvComp y).f1.f3.f2, (cvComp y).f1.f4, (cvComp y).f1.f5, (cvComp y).f2.f0, (cvComp y).f2.f1.f0, (cvComp y).f2.f1.f1, (cvComp y).f2.f1.f2, (cvComp y).f2.f1.f3.f0, (cvComp y).f2.f1.f3.f1, (cvComp y).f2.f1.f3.f2, (cvComp y).f2.f1.f4, (cvComp y).f2.f1.f5, (cvComp y).f2.f2, (cvComp y).f2.f3, (cvComp y).f2.f4.f0)) : Ev (fun k => laws_toQuery.f k (x.f0)) (cvQuery x).f0 := by
  refine Ev.up ?_
  simp only [laws_toQuery.f]
  have hb := hw2
  rw [wtQuery_eq] at hb
  refine Ev.bind (toCompS_of x.f0 (by omega) (fun y hy => h y hy (by have := sum_le_of_mem wtComp hy; rw [← wtCompS_sum] at this; omega))) ?_
  exact Ev.const (by rw [cvQuery_eq])
theorem toHead_ev : ∀ x : S71, wtHead x ≤ 1048576 → Ev (fun k => laws_toHead.f k (x.f0) (x.f1.f0) (x.f1.f1) (x.f1.f2) (x.f1.f3.f0) (x.f1.f3.f1) (x.f1.f3.f2) (x.f1.f4) (x.f1.f5) (x.f2) (x.f3) (x.f4.f0)) ((cvHead x).f0, (cvHead x).f1.f0, (cvHead x).f1.f1, (cvHead x).f1.f2, (cvHead x).f1.f3.f0, (cvHead x).f1.f3.f1, (cvHead x).f1.f3.f2, (cvHead x).f1.f4, (cvHead x).f1.f5, (cvHead x).f2, (cvHead x).f3, (cvHead x).f4.f0) := by
  refine indHeadL fun x ih ihq hw2 => ?_
  refine Ev.up ?_
  simp only [laws_toHead.f]
  have hb := hw2
  rw [wtHead_eq] at hb
  refine Ev.bind (toTerm_ev x.f1 (by omega)) ?_
  refine Ev.bind (toStringS_ev x.f2 (by unfold wts at hb; omega)) ?_
  refine Ev.bind (toHeadS_of x.f3 (by omega) (fun y hy => ih y hy (by have := sum_le_of_mem wtHead hy; rw [← wtHeadS_sum] at this; omega))) ?_
  refine Ev.bind (toQuery_of x.f4 (by omega) (fun y hy hwy => toComp_of y hwy (ihq y hy))) ?_
  exact Ev.const (by rw [cvHead_eq])
theorem toComp_ev (x : S73) (hw2 : wtComp x ≤ 1048576) : Ev (fun k => laws_toComp.f k (x.f0) (x.f1.f0) (x.f1.f1) (x.f1.f2) (x.f1.f3.f0) (x.f1.f3.f1) (x.f1.f3.f2) (x.f1.f4) (x.f1.f5) (x.f2.f0) (x.f2.f1.f0) (x.f2.f1.f1) (x.f2.f1.f2) (x.f2.f1.f3.f0) (x.f2.f1.f3.f1) (x.f2.f1.f3.f2) (x.f2.f1.f4) (x.f2.f1.f5) (x.f2.f2) (x.f2.f3) (x.f2.f4.f0)) ((cvComp x).f0, (cvComp x).f1.f0, (cvComp x).f1.f1, (cvComp x).f1.f2, (cvComp x).f1.f3.f0, (cvComp x).f1.f3.f1, (cvComp x).f1.f3.f2, (cvComp x).f1.f4, (cvComp x).f1.f5, (cvComp x).f2.f0, (cvComp x).f2.f1.f0, (cvComp x).f2.f1.f1, (cvComp x).f2.f1.f2, (cvComp x).f2.f1.f3.f0, (cvComp x).f2.f1.f3.f1, (cvComp x).f2.f1.f3.f2, (cvComp x).f2.f1.f4, (cvComp x).f2.f1.f5, (cvComp x).f2.f2, (cvComp x).f2.f3, (cvComp x).f2.f4.f0) := toComp_of x hw2 (toHead_ev x.f2)
theorem toQuery_ev (x : S24) (hw2 : wtQuery x ≤ 1048576) : Ev (fun k => laws_toQuery.f k x.f0) (cvQuery x).f0 := toQuery_of x hw2 (fun y _ hwy => toComp_ev y hwy)
theorem eqComp_of (x : S49) (hs : SmComp x) (h : Ev (fun k => laws_eqHead.f k (x.f2.f0) (x.f2.f1.f0) (x.f2.f1.f1) (x.f2.f1.f2) (x.f2.f1.f3.f0) (x.f2.f1.f3.f1) (x.f2.f1.f3.f2) (x.f2.f1.f4) (x.f2.f1.f5) (x.f2.f2) (x.f2.f3) (x.f2.f4.f0) (x.f2.f0) (x.f2.f1.f0) (x.f2.f1.f1) (x.f2.f1.f2) (x.f2.f1.f3.f0) (x.f2.f1.f3.f1) (x.f2.f1.f3.f2) (x.f2.f1.f4) (x.f2.f1.f5) (x.f2.f2) (x.f2.f3) (x.f2.f4.f0)) true) : Ev (fun k => laws_eqComp.f k (x.f0) (x.f1.f0) (x.f1.f1) (x.f1.f2) (x.f1.f3.f0) (x.f1.f3.f1) (x.f1.f3.f2) (x.f1.f4) (x.f1.f5) (x.f2.f0) (x.f2.f1.f0) (x.f2.f1.f1) (x.f2.f1.f2) (x.f2.f1.f3.f0) (x.f2.f1.f3.f1) (x.f2.f1.f3.f2) (x.f2.f1.f4) (x.f2.f1.f5) (x.f2.f2) (x.f2.f3) (x.f2.f4.f0) (x.f0) (x.f1.f0) (x.f1.f1) (x.f1.f2) (x.f1.f3.f0) (x.f1.f3.f1) (x.f1.f3.f2) (x.f1.f4) (x.f1.f5) (x.f2.f0) (x.f2.f1.f0) (x.f2.f1.f1) (x.f2.f1.f2) (x.f2.f1.f3.f0) (x.f2.f1.f3.f1) (x.f2.f1.f3.f2) (x.f2.f1.f4) (x.f2.f1.f5) (x.f2.f2) (x.f2.f3) (x.f2.f4.f0)) true := by
  refine Ev.up ?_
  simp only [laws_eqComp.f]
  refine Ev.bind (eqGenS_of x.f0 hs.p0.1 (fun y hy => eqGen_ev y (hs.p0.2 y hy))) (Ev.pos (by simp) ?_)
  refine Ev.bind (eqTerm_ev x.f1 hs.p1) (Ev.pos (by simp) ?_)
  refine Ev.bind (h) (Ev.pos (by simp) ?_)
  exact Ev.now _
theorem eqQuery_of (x : S29) (hs : SmQuery x) (h : ∀ y ∈ x.f0, Ev (fun k => laws_eqComp.f k (y.f0) (y.f1.f0) (y.f1.f1) (y.f1.f2) (y.f1.f3.f0) (y.f1.f3.f1) (y.f1.f3.f2) (y.f1.f4) (y.f1.f5) (y.f2.f0) (y.f2.f1.f0) (y.f2.f1.f1) (y.f2.f1.f2) (y.f2.f1.f3.f0) (y.f2.f1.f3.f1) (y.f2.f1.f3.f2) (y.f2.f1.f4) (y.f2.f1.f5) (y.f2.f2) (y.f2.f3) (y.f2.f4.f0) (y.f0) (y.f1.f0) (y.f1.f1) (y.f1.f2) (y.f1.f3.f0) (y.f1.f3.f1) (y.f1.f3.f2) (y.f1.f4) (y.f1.f5) (y.f2.f0) (y.f2.f1.f0) (y.f2.f1.f1) (y.f2.f1.f2) (y.f2.f1.f3.f0) (y.f2.f1.f3.f1) (y.f2.f1.f3.f2) (y.f2.f1.f4) (y.f2.f1.f5) (y.f2.f2) (y.f2.f3) (y.f2.f4.f0)) true) : Ev (fun k => laws_eqQuery.f k (x.f0) (x.f0)) true := by
  refine Ev.up ?_
  simp only [laws_eqQuery.f]
  refine Ev.bind (eqCompS_of x.f0 hs.p0.1 h) (Ev.pos (by simp) ?_)
  exact Ev.now _
theorem eqHead_ev : ∀ x : S47, SmHead x → Ev (fun k => laws_eqHead.f k (x.f0) (x.f1.f0) (x.f1.f1) (x.f1.f2) (x.f1.f3.f0) (x.f1.f3.f1) (x.f1.f3.f2) (x.f1.f4) (x.f1.f5) (x.f2) (x.f3) (x.f4.f0) (x.f0) (x.f1.f0) (x.f1.f1) (x.f1.f2) (x.f1.f3.f0) (x.f1.f3.f1) (x.f1.f3.f2) (x.f1.f4) (x.f1.f5) (x.f2) (x.f3) (x.f4.f0)) true := by
  refine indHeadI fun x ih ihq hs => ?_
  refine Ev.up ?_
  simp only [laws_eqHead.f]
  refine Ev.pos (by simp) ?_
  refine Ev.bind (eqTerm_ev x.f1 hs.p1) (Ev.pos (by simp) ?_)
  refine Ev.bind (eqStringS_ev x.f2 hs.p2.1) (Ev.pos (by simp) ?_)
  refine Ev.bind (eqHeadS_of x.f3 hs.p3.1 (fun y hy => ih y hy (hs.p3.2 y hy))) (Ev.pos (by simp) ?_)
  refine Ev.bind (eqQuery_of x.f4 hs.p4 (fun y hy => eqComp_of y (hs.p4.2 y hy) (ihq y hy (hs.p4.2 y hy).2.2))) (Ev.pos (by simp) ?_)
  exact Ev.now _
theorem eqComp_ev (x : S49) (hs : SmComp x) : Ev (fun k => laws_eqComp.f k (x.f0) (x.f1.f0) (x.f1.f1) (x.f1.f2) (x.f1.f3.f0) (x.f1.f3.f1) (x.f1.f3.f2) (x.f1.f4) (x.f1.f5) (x.f2.f0) (x.f2.f1.f0) (x.f2.f1.f1) (x.f2.f1.f2) (x.f2.f1.f3.f0) (x.f2.f1.f3.f1) (x.f2.f1.f3.f2) (x.f2.f1.f4) (x.f2.f1.f5) (x.f2.f2) (x.f2.f3) (x.f2.f4.f0) (x.f0) (x.f1.f0) (x.f1.f1) (x.f1.f2) (x.f1.f3.f0) (x.f1.f3.f1) (x.f1.f3.f2) (x.f1.f4) (x.f1.f5) (x.f2.f0) (x.f2.f1.f0) (x.f2.f1.f1) (x.f2.f1.f2) (x.f2.f1.f3.f0) (x.f2.f1.f3.f1) (x.f2.f1.f3.f2) (x.f2.f1.f4) (x.f2.f1.f5) (x.f2.f2) (x.f2.f3) (x.f2.f4.f0)) true := eqComp_of x hs (eqHead_ev x.f2 hs.2.2)
theorem eqQuery_ev (x : S29) (hs : SmQuery x) : Ev (fun k => laws_eqQuery.f k x.f0 x.f0) true := eqQuery_of x hs (fun y hy => eqComp_ev y (hs.2 y hy))
end Go.Proofs.Ytpkppeicceehcaa.Px
end
section
namespace Go.Proofs.Ytpkppeicceehcaa.Pure
open Go.RowKit Go.Proofs.Ytpkppeicceehcaa.Px Go.Proofs.YtpkppeicceehcaaW.PrintWords Go.Proofs.YtpkppeicceehcaaW.PrintLast Go.Proofs.Ytpkppeicceehcaa.Pl
set_option linter.unusedVariables false
set_option linter.unusedSimpArgs false
theorem FnExactEqualQuery_all (x0 : S24) (hW0 : W24 x0) (x1 : S24) (hW1 : W24 x1) : Ev (fun k => laws_FnExactEqualQuery.f k x0.f0 x1.f0) true := by
  simp only [laws_FnExactEqualQuery.f]
  have hb0 : (0 : Int) ≤ (1048576 : Int) ∧ (1048576 : Int) ≤ 1048576 := ⟨by omega, by omega⟩
  refine Ev.bind (szQuery_ev x0 hW0 _ hb0.1 hb0.2) ?_
  by_cases hc0 : cut (wtQuery x0) (1048576 : Int) < 0
  · exact Ev.pos hc0 (Ev.now _)
  refine Ev.neg hc0 ?_
  have hw0 : (wtQuery x0 : Nat) ≤ 1048576 := by
    have := (not_congr (cut_neg (n := wtQuery x0))).1 hc0
    have h2 := hb0
    omega
  have hb1 : (0 : Int) ≤ (cut (wtQuery x0) (1048576 : Int)) ∧ (cut (wtQuery x0) (1048576 : Int)) ≤ 1048576 := ⟨by omega, by have := cut_le (n := wtQuery x0) hb0.1; omega⟩
  refine Ev.bind (szQuery_ev x1 hW1 _ hb1.1 hb1.2) ?_
  by_cases hc1 : cut (wtQuery x1) (cut (wtQuery x0) (1048576 : Int)) < 0
  · exact Ev.pos hc1 (Ev.now _)
  refine Ev.neg hc1 ?_
  have hw1 : (wtQuery x1 : Nat) ≤ 1048576 := by
    have := (not_congr (cut_neg (n := wtQuery x1))).1 hc1
    have h2 := hb1
    omega
  obtain ⟨r, h1, h2⟩ := EqualQuery_same (cvQuery x0) (smQuery_of x0 hW0 hw0) (cvQuery x1) (smQuery_of x1 hW1 hw1)
  refine Ev.bind (toQuery_ev x0 hw0) ?_
  refine Ev.bind (toQuery_ev x1 hw1) ?_
  first | refine Ev.bind h1 ?_ | (obtain ⟨k1_, h1_⟩ := h1.rounds; refine Ev.fix h1_ ?_)
  refine Ev.bind (toQuery_ev x0 hw0) ?_
  refine Ev.bind (toQuery_ev x1 hw1) ?_
  first | refine Ev.bind h2 ?_ | (obtain ⟨k2_, h2_⟩ := h2.rounds; refine Ev.fix h2_ ?_)
  first | refine Ev.pos rfl ?_ | refine Ev.neg (by simp) ?_ | refine Ev.pos (by simp) ?_
  refine Ev.bind (toQuery_ev x0 hw0) ?_
  refine Ev.bind (eqQuery_ev _ (smQuery_of x0 hW0 hw0)) ?_
  refine Ev.pos rfl ?_
  refine Ev.bind (toQuery_ev x1 hw1) ?_
  refine Ev.bind (eqQuery_ev _ (smQuery_of x1 hW1 hw1)) ?_
  refine Ev.pos rfl ?_
  exact Ev.now _
theorem FnExactEqualQuery : laws_FnExactEqualQuery.Pure := by
  intro v0_0 v1_0 h0 h1
  exact (FnExactEqualQuery_all ⟨v0_0⟩ h0 ⟨v1_0⟩ h1).rounds
end Go.Proofs.Ytpkppeicceehcaa.Pure
end
section
namespace Go.Proofs.Ytpkppeicceehcaa.Rd
open Go.RowKit Go.Proofs.YtpkppeicceehcaaW.PrintWords
set_option linter.unusedVariables false
/-- What reads as_ data of type t, by at most n steps, is of kind d and meets q. -/
def Op (P : Program) (n : Nat) (t : TypeId) {α : Type} (d : Kd α) (q : α → Prop) : Prop :=
  ∀ (H : Type) (enc : TypeId × Value → H) (w : World) (base : Nat) (spare : Nat → Bool) (held : Bool) (fuel : Nat) (cs : List Value) (x : DataW H × List MemPlace),
    fuel ≤ n → DataW.trod enc P w base spare held fuel t cs = some x → ∃ y, d.K w y cs ∧ q y
theorem Op.imp {P : Program} {n : Nat} {t : TypeId} {α : Type} {d d' : Kd α} {q q' : α → Prop} (h1 : ∀ w y cs, d.K w y cs → d'.K w y cs) (h2 : ∀ y, q y → q' y) (h : Op P n t d q) : Op P n t d' q' := by
  intro H enc w base spare held fuel cs x hf hx
  obtain ⟨y, hy, hq⟩ := h H enc w base spare held fuel cs x hf hx
  exact ⟨y, h1 _ _ _ hy, h2 _ hq⟩
theorem Op.iso {P : Program} {n : Nat} {t : TypeId} {α β : Type} {d : Kd α} {q : α → Prop} {f : β → α} (g : α → β) (hg : ∀ y, f (g y) = y) (h : Op P n t d q) : Op P n t (Kd.iso d f) (fun x => q (f x)) := by
  intro H enc w base spare held fuel cs x hf hx
  obtain ⟨y, hy, hq⟩ := h H enc w base spare held fuel cs x hf hx
  refine ⟨g y, ?_, ?_⟩
  · show d.K w (f (g y)) cs
    rw [hg]; exact hy
  · show q (f (g y))
    rw [hg]; exact hq
theorem Op.int {P : Program} {n : Nat} {t : TypeId} {k : IntKind} (ht : P.underlying t = some (.int k)) : Op P n t (Kd.int k) (fun x => (Lit.int k x).wf = true) := by
  intro H enc w base spare held fuel cs x hf hx
  obtain ⟨m, rfl, rfl, hw⟩ := DataW.trod_int ht hx
  exact ⟨m, rfl, hw⟩
theorem Op.bool {P : Program} {n : Nat} {t : TypeId} (ht : P.underlying t = some .bool) : Op P n t Kd.bool (fun _ => True) := by
  intro H enc w base spare held fuel cs x hf hx
  obtain ⟨m, rfl, rfl⟩ := DataW.trod_bool ht hx
  exact ⟨m, rfl, trivial⟩
theorem trod_string' {H : Type} {enc : TypeId × Value → H} {P : Program} {w : World} {base : Nat} {spare : Nat → Bool} {held : Bool} {fuel : Nat} {t : TypeId} {cs : List Value} {x : DataW H × List MemPlace}
    (ht : P.underlying t = some .string) (h : DataW.trod enc P w base spare held fuel t cs = some x) : ∃ s, cs = [.string s] ∧ s.size ≤ maxLen := by
  cases fuel with
  | zero => simp [DataW.trod] at h
  | succ n =>
    unfold DataW.trod at h
    rw [ht] at h
    split at h <;> simp_all
theorem Op.string {P : Program} {n : Nat} {t : TypeId} (ht : P.underlying t = some .string) : Op P n t Kd.string (fun s => s.size ≤ maxLen) := by
  intro H enc w base spare held fuel cs x hf hx
  obtain ⟨m, rfl, hm⟩ := trod_string' ht hx
  exact ⟨m, rfl, hm⟩
theorem add_add (a : Addr) (i j : Nat) : (a.add i).add j = a.add (i + j) := by
  unfold Addr.add
  by_cases h1 : i = 0 <;> by_cases h2 : j = 0 <;> simp [h1, h2, Nat.add_assoc]
theorem choose_list {α : Type} {p : Nat → α → Prop} (n : Nat) (h : ∀ i, i < n → ∃ y, p i y) : ∃ ys : List α, ys.length = n ∧ ∀ i y, ys[i]? = some y → p i y := by
  induction n with
  | zero => exact ⟨[], rfl, fun i y hy => by simp at hy⟩
  | succ n ih =>
    obtain ⟨ys, hl, hy⟩ := ih (fun i hi => h i (by omega))
    obtain ⟨z, hz⟩ := h n (by omega)
    refine ⟨ys ++ [z], by simp [hl], fun i y hi => ?_⟩
    by_cases hlt : i < n
    · rw [List.getElem?_append_left (by omega)] at hi
      exact hy i y hi
    · by_cases he : i = n
      · subst he
        rw [List.getElem?_append_right (by omega)] at hi
        simp [hl] at hi
        subst hi
        exact hz
      · rw [List.getElem?_eq_none (by simp; omega)] at hi
        cases hi
theorem Op.slice {P : Program} {n : Nat} {t e : TypeId} {α : Type} {d : Kd α} {q : α → Prop} (ht : P.underlying t = some (.slice e)) (hsz : P.cellsOf e = d.sz) (h : ∀ k, k < n → Op P k e d q) :
    Op P n t (Kd.slice e d) (fun xs => xs.length ≤ maxLen ∧ ∀ y ∈ xs, q y) := by
  intro H enc w base spare held fuel cs x hf hx
  rcases DataW.trod_slice ht hx with ⟨rfl, _⟩ | ⟨a, len, cap, elems, rest, m, hm, rfl, _, hb, hl, hc, hlen, hel, _, _⟩
  · exact ⟨[], ⟨none, 0, rfl, Nat.le_refl _, ⟨rfl, by simp, fun hp => absurd hp (by simp)⟩⟩, by simp, fun y hy => by simp at hy⟩
  · have hone : ∀ i, i < len → ∃ y, (∃ c, c.length = d.sz ∧ d.K w y c ∧ ∀ j u, c[j]? = some u → w.cell? (a.add (i * d.sz + j)) = some u) ∧ q y := by
      intro i hi
      have h1 := hel i hi
      rw [List.getElem?_eq_getElem (by omega)] at h1
      obtain ⟨c, hc1, hc2⟩ := Option.bind_eq_some_iff.1 h1
      obtain ⟨y, hy, hq⟩ := h m (by omega) H enc w base spare held m c _ (Nat.le_refl _) hc2
      obtain ⟨_, hcl, hcells⟩ := World.cells?_some hc1
      refine ⟨y, ⟨c, by omega, hy, fun j u hu => ?_⟩, hq⟩
      have hj : j < P.cellsOf e := by
        rw [← hcl]
        exact (List.getElem?_eq_some_iff.1 hu).1
      have := hcells j hj
      rw [add_add, hsz] at this
      rw [this, hu]
    obtain ⟨ys, hyl, hys⟩ := choose_list len hone
    have hmx : len ≤ 9223372036854775807 := by
      have : cap ≤ 9223372036854775807 := hc
      omega
    refine ⟨ys, ⟨some a, cap, by rw [hyl], by omega, ⟨rfl, by omega, fun _ => ⟨a, rfl, fun j p hj => (hys j p hj).1⟩⟩⟩, by rw [hyl]; exact hmx, fun y hy => ?_⟩
    obtain ⟨i, hi, rfl⟩ := List.getElem_of_mem hy
    exact (hys i _ (List.getElem?_eq_getElem hi)).2
/-- Fields, from an offset on. -/
def OpF (P : Program) (n : Nat) (fs : List Field) (off : Nat) {α : Type} (d : Kd α) (q : α → Prop) : Prop :=
  ∀ (H : Type) (enc : TypeId × Value → H) (w : World) (base : Nat) (spare : Nat → Bool) (held : Bool) (fuel : Nat) (cs : List Value), fuel ≤ n →
    (∀ f ∈ fs, ∃ x, DataW.trod enc P w base spare held fuel f.type ((cs.drop f.offset).take (P.cellsOf f.type)) = some x) → cs.length = off + d.sz → ∃ y, d.K w y (cs.drop off) ∧ q y
theorem OpF.one {P : Program} {n : Nat} {f : Field} {off : Nat} {α : Type} {d : Kd α} {q : α → Prop} (ho : f.offset = off) (hsz : P.cellsOf f.type = d.sz) (h : Op P n f.type d q) : OpF P n [f] off d q := by
  intro H enc w base spare held fuel cs hf hx hl
  obtain ⟨x, hx⟩ := hx f (List.mem_singleton.2 rfl)
  rw [ho, hsz, List.take_of_length_le (by rw [List.length_drop]; omega)] at hx
  exact h H enc w base spare held fuel _ x hf hx
theorem OpF.cons {P : Program} {n : Nat} {f : Field} {fs : List Field} {off : Nat} {α β : Type} {a : Kd α} {b : Kd β} {qa : α → Prop} {qb : β → Prop} (ho : f.offset = off) (hsz : P.cellsOf f.type = a.sz) (h : Op P n f.type a qa) (hr : OpF P n fs (off + a.sz) b qb) :
    OpF P n (f :: fs) off (Kd.pair a b) (fun y => qa y.1 ∧ qb y.2) := by
  intro H enc w base spare held fuel cs hf hx hl
  have hl' : cs.length = off + (a.sz + b.sz) := hl
  obtain ⟨x, h1⟩ := hx f (List.mem_cons_self ..)
  rw [ho, hsz] at h1
  obtain ⟨y, hy, hq⟩ := h H enc w base spare held fuel _ x hf h1
  obtain ⟨z, hz, hq2⟩ := hr H enc w base spare held fuel cs hf (fun g hg => hx g (List.mem_cons_of_mem _ hg)) (by omega)
  refine ⟨(y, z), ⟨_, _, ?_, hy, hz⟩, hq, hq2⟩
  rw [← List.drop_drop, List.take_append_drop]
theorem Op.struct {P : Program} {n : Nat} {t : TypeId} {fs : Array Field} {α : Type} {d : Kd α} {q : α → Prop} (ht : P.underlying t = some (.struct fs)) (hsz : P.cellsOf t = d.sz) (h : ∀ k, k < n → OpF P k fs.toList 0 d q) : Op P n t d q := by
  intro H enc w base spare held fuel cs x hf hx
  obtain ⟨xs, m, hm, _, hl, hxl, hfs⟩ := DataW.trod_struct ht hx
  have hr := h m (by omega) H enc w base spare held m cs (Nat.le_refl _) (fun f hfm => ?_) (by omega)
  · simpa using hr
  · obtain ⟨i, hi, rfl⟩ := List.getElem_of_mem hfm
    have hi' : i < fs.size := by simpa using hi
    have h2 := hfs i _ (Array.getElem?_eq_getElem hi')
    rw [List.getElem?_eq_getElem (by omega)] at h2
    exact ⟨_, by simpa using h2⟩
/-- The same at whatever fuel. -/
theorem Op.open_ {P : Program} {t : TypeId} {α : Type} {d : Kd α} {q : α → Prop} (h : ∀ n, Op P n t d q) {H : Type} {enc : TypeId × Value → H} {w : World} {base : Nat} {spare : Nat → Bool} {held : Bool} {v : Value} {x : DataW H} {ps : List MemPlace}
    (ht : DataW.Trod enc P w base spare held t v x ps) : ∃ y, d.K w y v.cells.toList ∧ q y := by
  obtain ⟨fuel, hf⟩ := ht
  exact h fuel H enc w base spare held fuel _ _ (Nat.le_refl _) hf
end Go.Proofs.Ytpkppeicceehcaa.Rd
end
