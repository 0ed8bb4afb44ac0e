/- The family Type of mirrored types: the weight of a value, its copy, and what the laws' own helpers come to. No condition. -/
import Derived.Test.YtfidfpmgoaainaaZTablesInPx1M
import Derived.Test.YtfidfpmgoaainaaZTablesInPx5
import Derived.Test.YtfidfpmgoaainaaZTablesInPx6M
import Derived.Test.YtfidfpmgoaainaaZTablesInPx8M
import Derived.Test.YtfidfpmgoaainaaZTablesInWLastM
import Derived.Test.YtfidfpmgoaainaaZTablesInWWords
section
namespace Go.Proofs.Ytfidfpmgoaainaa.Px
open Go.RowKit Go.Proofs.YtfidfpmgoaainaaW.PrintWords Go.Proofs.Ytfidfpmgoaainaa.Pl
set_option linter.unusedVariables false
set_option linter.unusedSimpArgs false
mutual
def wtType : S25 → Nat
  | ⟨x0, x1, x2⟩ => wts x1 + (x2.length + wtTypeS x2)
def wtTypeS : List S25 → Nat
  | [] => 0
  | x :: r => wtType x + wtTypeS r
end
mutual
def cvType : S25 → S33
  | ⟨x0, x1, x2⟩ => ⟨x0, x1, (cvTypeS x2)⟩
def cvTypeS : List S25 → List S33
  | [] => []
  | x :: r => cvType x :: cvTypeS r
end
theorem wtTypeS_sum (xs : List S25) : wtTypeS xs = (xs.map wtType).sum := by
  induction xs with
  | nil => rfl
  | cons x r ih => simp [wtTypeS, ih]
theorem cvTypeS_map (xs : List S25) : cvTypeS xs = xs.map cvType := by
  induction xs with
  | nil => rfl
  | cons x r ih => simp [cvTypeS, ih]
theorem wtType_eq (x : S25) : wtType x = wts x.f1 + (x.f2.length + wtTypeS x.f2) := by cases x; simp only [wtType]
theorem cvType_eq (x : S25) : cvType x = ⟨x.f0, x.f1, (cvTypeS x.f2)⟩ := by cases x; simp only [cvType]
theorem indTypeL {P : S25 → Prop} (h : ∀ x, (∀ y ∈ x.f2, P y) → P x) : ∀ x, P x
  | ⟨x0, x1, x2⟩ => h _ (fun y hy => indTypeL h y)
termination_by x => SizeOf.sizeOf x
decreasing_by
  have := List.sizeOf_lt_of_mem hy
  simp at this ⊢
  omega
theorem indTypeI {P : S33 → Prop} (h : ∀ x, (∀ y ∈ x.f2, P y) → P x) : ∀ x, P x
  | ⟨x0, x1, x2⟩ => h _ (fun y hy => indTypeI h y)
termination_by x => SizeOf.sizeOf x
decreasing_by
  have := List.sizeOf_lt_of_mem hy
  simp at this ⊢
  omega
inductive SmType : S33 → Prop
  | mk {x : S33} : ((Lit.int .i64 x.f0).wf = true) → ((x.f1.length ≤ 1048576 ∧ ∀ y ∈ x.f1, y.size ≤ 1048576)) → x.f2.length ≤ 1048576 → (∀ y ∈ x.f2, SmType y) → SmType x
theorem SmType.p0 {x : S33} (h : SmType x) : (Lit.int .i64 x.f0).wf = true := by cases h; assumption
theorem SmType.p1 {x : S33} (h : SmType x) : (x.f1.length ≤ 1048576 ∧ ∀ y ∈ x.f1, y.size ≤ 1048576) := by cases h; assumption
theorem SmType.p2 {x : S33} (h : SmType x) : x.f2.length ≤ 1048576 ∧ ∀ y ∈ x.f2, SmType y := by cases h; constructor <;> assumption
theorem etaType (x : S33) : (⟨x.f0, x.f1, x.f2⟩ : S33) = x := by obtain ⟨_, _, _⟩ := x; rfl
theorem smType_of : ∀ x : S25, W25 x → wtType x ≤ 1048576 → SmType (cvType x) := by
  refine indTypeL fun x ih hw hw2 => ?_
  have hb := hw2
  rw [wtType_eq] at hb
  rw [cvType_eq]
  exact SmType.mk (hw.p0) (⟨by (try dsimp only); unfold wts at hb; omega, fun y hy => by (try dsimp only at hy); have := sum_le_of_mem ByteArray.size hy; unfold wts szs at hb; omega⟩) (by (try dsimp only); rw [cvTypeS_map, List.length_map]; omega) (fun z hz => by
      (try dsimp only at hz)
      rw [cvTypeS_map] at hz
      obtain ⟨y, hy, rfl⟩ := List.mem_map.1 hz
      exact ih y hy (hw.p2.2 y hy) (by have := sum_le_of_mem wtType hy; rw [← wtTypeS_sum] at this; omega))
theorem szTypeS_of (xs : List S25) (hx : xs.length ≤ maxLen) (h : ∀ y ∈ xs, ∀ left : Int, 0 ≤ left → left ≤ 1048576 → Ev (fun k => laws_szType.f k (y.f0) (y.f1) (y.f2) left) (cut (wtType y) left)) (left : Int) (h0 : 0 ≤ left) (hl : left ≤ 1048576) : Ev (fun k => laws_szTypeS.f k xs left) (cut (xs.length + wtTypeS xs) left) := by
  refine Ev.up ?_
  simp only [laws_szTypeS.f]
  have hs := cut_sub (n := xs.length) h0 hl hx
  by_cases hc : cut xs.length left < 0
  · exact Ev.pos (hs.1.2 hc) (Ev.const (cut_add' hc).symm)
  · refine Ev.neg (fun h => hc (hs.1.1 h)) ?_
    rw [hs.2 (by omega)]
    have hl2 := cut_le (n := xs.length) h0
    have hw := sz_loop xs.length (fun k i left => laws_szType.f k ((rd_T25 xs (i : Int)).f0) ((rd_T25 xs (i : Int)).f1) ((rd_T25 xs (i : Int)).f2) left) (fun k left i => laws_szTypeS.l0 k xs left (i : Int)) (fun i => wtType (xs.getD i z25)) (fun k left i hi => by
      simp only [laws_szTypeS.l0]
      rw [if_pos (by omega), if_pos (by omega), w1 hi hx]) (fun k left => by simp only [laws_szTypeS.l0]; rw [if_neg (by omega)]) (fun i left hi h0 hl => h _ (mem_getD xs z25 i hi) left h0 hl) xs.length 0 _ (by omega) (show 0 ≤ cut xs.length left by omega) (by omega)
    refine Ev.eq hw ?_
    rw [cut_add (by omega), sumF_list wtType z25 xs xs.length 0 (by omega), wtTypeS_sum]
    rfl
theorem szType_ev : ∀ x : S25, W25 x → ∀ left : Int, 0 ≤ left → left ≤ 1048576 → Ev (fun k => laws_szType.f k (x.f0) (x.f1) (x.f2) left) (cut (wtType x) left) := by
  refine indTypeL fun x ih hw left h0 hl => ?_
  refine Ev.up ?_
  simp only [laws_szType.f]
  rw [wtType_eq]
  have hb0 : (0 : Int) ≤ left ∧ left ≤ 1048576 := ⟨h0, hl⟩
  refine Ev.bind (szStringS_ev x.f1 hw.p1 _ hb0.1 hb0.2) ?_
  by_cases hc0 : cut (wts x.f1) left < 0
  · refine Ev.pos hc0 (Ev.const ?_)
    have hn : cut (wts x.f1) left < 0 := hc0
    have hn : cut (wts x.f1 + (x.f2.length + wtTypeS x.f2)) left < 0 := by rw [cut_add' hn]; omega
    have hv := cut_neg.1 hn; unfold cut; rw [if_neg hv]
  refine Ev.neg hc0 ?_
  have hb1 : (0 : Int) ≤ cut (wts x.f1) left ∧ cut (wts x.f1) left ≤ 1048576 := ⟨by omega, by have := cut_le (n := wts x.f1) h0; omega⟩
  refine Ev.bind (szTypeS_of x.f2 hw.p2.1 (fun y hy => ih y hy (hw.p2.2 y hy)) _ hb1.1 hb1.2) ?_
  by_cases hc1 : cut ((x.f2.length + wtTypeS x.f2)) (cut (wts x.f1) left) < 0
  · refine Ev.pos hc1 (Ev.const ?_)
    have hn : cut (wts x.f1 + (x.f2.length + wtTypeS x.f2)) left < 0 := by rw [← cut_add (by omega)]; exact hc1
    have hv := cut_neg.1 hn; unfold cut; rw [if_neg hv]
  refine Ev.neg hc1 ?_
  rw [cut_add (by omega)] at hc1 ⊢
  have hb2 : (0 : Int) ≤ cut (wts x.f1 + (x.f2.length + wtTypeS x.f2)) left ∧ cut (wts x.f1 + (x.f2.length + wtTypeS x.f2)) left ≤ 1048576 := ⟨by omega, by have := cut_le (n := wts x.f1 + (x.f2.length + wtTypeS x.f2)) h0; omega⟩
  exact Ev.const rfl
theorem toTypeS_of (xs : List S25) (hx : xs.length ≤ 1048576) (h : ∀ y ∈ xs, Ev (fun k => laws_toType.f k (y.f0) (y.f1) (y.f2)) ((cvType y).f0, (cvType y).f1, (cvType y).f2)) : Ev (fun k => laws_toTypeS.f k xs) (cvTypeS xs) := by
  refine Ev.up ?_
  simp only [laws_toTypeS.f]
  refine Ev.pos (by omega) (Ev.pos (by omega) ?_)
  have hw := to_loop xs.length (fun k i => (laws_toType.f k ((rd_T25 xs (i : Int)).f0) ((rd_T25 xs (i : Int)).f1) ((rd_T25 xs (i : Int)).f2)).map fun t => (⟨t.1, t.2.1, t.2.2⟩ : S33)) (fun k out i => laws_toTypeS.l0 k xs out (i : Int)) (fun i => cvType (xs.getD i z25)) (fun k out i hi hl => by
    simp only [laws_toTypeS.l0]
    rw [if_pos (by omega), if_pos (by omega)]
    rcases laws_toType.f k ((rd_T25 xs (i : Int)).f0) ((rd_T25 xs (i : Int)).f1) ((rd_T25 xs (i : Int)).f2) with _ | t
    · rfl
    · simp only [Option.map_some, Option.bind_some]
      rw [if_pos (by omega), w1' hi hx]
      rfl) (fun k out => by simp only [laws_toTypeS.l0]; rw [if_neg (by omega)]) (fun i hi => Ev.eq (Ev.map (fun t => (⟨t.1, t.2.1, t.2.2⟩ : S33)) (h _ (mem_getD xs z25 i hi))) (etaType _)) xs.length 0 (List.replicate ((xs.length : Int)).toNat z33) (by omega) (by simp)
  refine Ev.eq hw ?_
  rw [List.take_zero, List.nil_append, range_map_getElem cvType z25 xs, cvTypeS_map]
theorem toType_ev : ∀ x : S25, wtType x ≤ 1048576 → Ev (fun k => laws_toType.f k (x.f0) (x.f1) (x.f2)) ((cvType x).f0, (cvType x).f1, (cvType x).f2) := by
  refine indTypeL fun x ih hw2 => ?_
  refine Ev.up ?_
  simp only [laws_toType.f]
  have hb := hw2
  rw [wtType_eq] at hb
  refine Ev.bind (toStringS_ev x.f1 (by unfold wts at hb; omega)) ?_
  refine Ev.bind (toTypeS_of x.f2 (by omega) (fun y hy => ih y hy (by have := sum_le_of_mem wtType hy; rw [← wtTypeS_sum] at this; omega))) ?_
  exact Ev.const (by rw [cvType_eq])
theorem eqTypeS_of (xs : List S33) (hx : xs.length ≤ 1048576) (h : ∀ y ∈ xs, Ev (fun k => laws_eqType.f k (y.f0) (y.f1) (y.f2) (y.f0) (y.f1) (y.f2)) true) : Ev (fun k => laws_eqTypeS.f k xs xs) true := by
  refine Ev.up ?_
  simp only [laws_eqTypeS.f]
  refine Ev.pos (by simp) ?_
  exact eq_loop xs.length (fun k i => laws_eqType.f k ((rd_T33 xs (i : Int)).f0) ((rd_T33 xs (i : Int)).f1) ((rd_T33 xs (i : Int)).f2) ((rd_T33 xs (i : Int)).f0) ((rd_T33 xs (i : Int)).f1) ((rd_T33 xs (i : Int)).f2)) (fun k i => laws_eqTypeS.l0 k xs xs (i : Int)) (fun k i hi => by
    simp only [laws_eqTypeS.l0]
    rw [if_pos (by omega), if_pos (by omega), if_pos (by omega), w1' hi hx]) (fun k => by simp only [laws_eqTypeS.l0]; rw [if_neg (by omega)]) (fun i hi => h _ (mem_getD xs z33 i hi)) xs.length 0 (by omega)
theorem eqType_ev : ∀ x : S33, SmType x → Ev (fun k => laws_eqType.f k (x.f0) (x.f1) (x.f2) (x.f0) (x.f1) (x.f2)) true := by
  refine indTypeI fun x ih hs => ?_
  refine Ev.up ?_
  simp only [laws_eqType.f]
  refine Ev.pos (by simp) ?_
  refine Ev.bind (eqStringS_ev x.f1 hs.p1.1) (Ev.pos (by simp) ?_)
  refine Ev.bind (eqTypeS_of x.f2 hs.p2.1 (fun y hy => ih y hy (hs.p2.2 y hy))) (Ev.pos (by simp) ?_)
  exact Ev.now _
end Go.Proofs.Ytfidfpmgoaainaa.Px
end
section
namespace Go.Proofs.Ytfidfpmgoaainaa.Px
open Go.RowKit Go.Proofs.YtfidfpmgoaainaaW.PrintWords Go.Proofs.Ytfidfpmgoaainaa.Pl
set_option linter.unusedVariables false
set_option linter.unusedSimpArgs false
mutual
def wtTerm : S28 → Nat
  | ⟨x0, x1, x2, x3, x4, x5⟩ => x1.size + wtType x3 + wts x4 + (x5.length + wtTermS x5)
def wtTermS : List S28 → Nat
  | [] => 0
  | x :: r => wtTerm x + wtTermS r
end
mutual
def cvTerm : S28 → S36
  | ⟨x0, x1, x2, x3, x4, x5⟩ => ⟨x0, x1, x2, (cvType x3), x4, (cvTermS x5)⟩
def cvTermS : List S28 → List S36
  | [] => []
  | x :: r => cvTerm x :: cvTermS r
end
theorem wtTermS_sum (xs : List S28) : wtTermS xs = (xs.map wtTerm).sum := by
  induction xs with
  | nil => rfl
  | cons x r ih => simp [wtTermS, ih]
theorem cvTermS_map (xs : List S28) : cvTermS xs = xs.map cvTerm := by
  induction xs with
  | nil => rfl
  | cons x r ih => simp [cvTermS, ih]
theorem wtTerm_eq (x : S28) : wtTerm x = x.f1.size + wtType x.f3 + wts x.f4 + (x.f5.length + wtTermS x.f5) := by cases x; simp only [wtTerm]
theorem cvTerm_eq (x : S28) : cvTerm x = ⟨x.f0, x.f1, x.f2, (cvType x.f3), x.f4, (cvTermS x.f5)⟩ := by cases x; simp only [cvTerm]
theorem indTermL {P : S28 → Prop} (h : ∀ x, (∀ y ∈ x.f5, P y) → P x) : ∀ x, P x
  | ⟨x0, x1, x2, x3, x4, x5⟩ => h _ (fun y hy => indTermL h y)
termination_by x => SizeOf.sizeOf x
decreasing_by
  have := List.sizeOf_lt_of_mem hy
  simp at this ⊢
  omega
theorem indTermI {P : S36 → Prop} (h : ∀ x, (∀ y ∈ x.f5, P y) → P x) : ∀ x, P x
  | ⟨x0, x1, x2, x3, x4, x5⟩ => h _ (fun y hy => indTermI h y)
termination_by x => SizeOf.sizeOf x
decreasing_by
  have := List.sizeOf_lt_of_mem hy
  simp at this ⊢
  omega
inductive SmTerm : S36 → Prop
  | mk {x : S36} : ((Lit.int .i64 x.f0).wf = true) → (x.f1.size ≤ 1048576) → ((Lit.int .i64 x.f2).wf = true) → (SmType x.f3) → ((x.f4.length ≤ 1048576 ∧ ∀ y ∈ x.f4, y.size ≤ 1048576)) → x.f5.length ≤ 1048576 → (∀ y ∈ x.f5, SmTerm y) → SmTerm x
theorem SmTerm.p0 {x : S36} (h : SmTerm x) : (Lit.int .i64 x.f0).wf = true := by cases h; assumption
theorem SmTerm.p1 {x : S36} (h : SmTerm x) : x.f1.size ≤ 1048576 := by cases h; assumption
theorem SmTerm.p2 {x : S36} (h : SmTerm x) : (Lit.int .i64 x.f2).wf = true := by cases h; assumption
theorem SmTerm.p3 {x : S36} (h : SmTerm x) : SmType x.f3 := by cases h; assumption
theorem SmTerm.p4 {x : S36} (h : SmTerm x) : (x.f4.length ≤ 1048576 ∧ ∀ y ∈ x.f4, y.size ≤ 1048576) := by cases h; assumption
theorem SmTerm.p5 {x : S36} (h : SmTerm x) : x.f5.length ≤ 1048576 ∧ ∀ y ∈ x.f5, SmTerm y := by cases h; constructor <;> assumption
theorem etaTerm (x : S36) : (⟨x.f0, x.f1, x.f2, (⟨x.f3.f0, x.f3.f1, x.f3.f2⟩ : S33), x.f4, x.f5⟩ : S36) = x := by obtain ⟨_, _, _, ⟨_, _, _⟩, _, _⟩ := x; rfl
mutual
def ndTerm : S36 → Nat
  | ⟨x0, x1, x2, x3, x4, x5⟩ => 1 + ndTermS x5
def ndTermS : List S36 → Nat
  | [] => 0
  | x :: r => ndTerm x + ndTermS r
end
theorem ndTermS_sum (xs : List S36) : ndTermS xs = (xs.map ndTerm).sum := by
  induction xs with
  | nil => rfl
  | cons x r ih => simp [ndTermS, ih]
theorem ndTerm_eq (x : S36) : ndTerm x = 1 + (x.f5.map ndTerm).sum := by cases x; simp only [ndTerm, ndTermS_sum]
theorem ndTerm_cv : ∀ x : S28, ndTerm (cvTerm x) ≤ wtTerm x + 1 := by
  refine indTermL fun x ih => ?_
  rw [ndTerm_eq, cvTerm_eq, wtTerm_eq]
  have hL : ∀ l : List S28, (∀ y ∈ l, ndTerm (cvTerm y) ≤ wtTerm y + 1) → ((l.map cvTerm).map ndTerm).sum ≤ l.length + (l.map wtTerm).sum := by
    intro l
    induction l with
    | nil => intro _; simp
    | cons y r ih2 =>
      intro h
      have h1 := h y (List.mem_cons_self ..)
      have h2 := ih2 (fun z hz => h z (List.mem_cons_of_mem _ hz))
      simp only [List.map_cons, List.sum_cons, List.length_cons] at h2 ⊢
      omega
  have := hL x.f5 ih
  (try dsimp only)
  rw [cvTermS_map, wtTermS_sum]
  omega
theorem smTerm_of : ∀ x : S28, W28 x → wtTerm x ≤ 1048576 → SmTerm (cvTerm x) := by
  refine indTermL fun x ih hw hw2 => ?_
  have hb := hw2
  rw [wtTerm_eq] at hb
  rw [cvTerm_eq]
  exact SmTerm.mk (hw.p0) (by (try dsimp only); omega) (hw.p2) (smType_of _ hw.p3 (by omega)) (⟨by (try dsimp only); unfold wts at hb; omega, fun y hy => by (try dsimp only at hy); have := sum_le_of_mem ByteArray.size hy; unfold wts szs at hb; omega⟩) (by (try dsimp only); rw [cvTermS_map, List.length_map]; omega) (fun z hz => by
      (try dsimp only at hz)
      rw [cvTermS_map] at hz
      obtain ⟨y, hy, rfl⟩ := List.mem_map.1 hz
      exact ih y hy (hw.p5.2 y hy) (by have := sum_le_of_mem wtTerm hy; rw [← wtTermS_sum] at this; omega))
theorem szTermS_of (xs : List S28) (hx : xs.length ≤ maxLen) (h : ∀ y ∈ xs, ∀ left : Int, 0 ≤ left → left ≤ 1048576 → Ev (fun k => laws_szTerm.f k (y.f0) (y.f1) (y.f2) (y.f3.f0) (y.f3.f1) (y.f3.f2) (y.f4) (y.f5) left) (cut (wtTerm y) left)) (left : Int) (h0 : 0 ≤ left) (hl : left ≤ 1048576) : Ev (fun k => laws_szTermS.f k xs left) (cut (xs.length + wtTermS xs) left) := by
  refine Ev.up ?_
  simp only [laws_szTermS.f]
  have hs := cut_sub (n := xs.length) h0 hl hx
  by_cases hc : cut xs.length left < 0
  · exact Ev.pos (hs.1.2 hc) (Ev.const (cut_add' hc).symm)
  · refine Ev.neg (fun h => hc (hs.1.1 h)) ?_
    rw [hs.2 (by omega)]
    have hl2 := cut_le (n := xs.length) h0
    have hw := sz_loop xs.length (fun k i left => laws_szTerm.f k ((rd_T28 xs (i : Int)).f0) ((rd_T28 xs (i : Int)).f1) ((rd_T28 xs (i : Int)).f2) ((rd_T28 xs (i : Int)).f3.f0) ((rd_T28 xs (i : Int)).f3.f1) ((rd_T28 xs (i : Int)).f3.f2) ((rd_T28 xs (i : Int)).f4) ((rd_T28 xs (i : Int)).f5) left) (fun k left i => laws_szTermS.l0 k xs left (i : Int)) (fun i => wtTerm (xs.getD i z28)) (fun k left i hi => by
      simp only [laws_szTermS.l0]
      rw [if_pos (by omega), if_pos (by omega), w1 hi hx]) (fun k left => by simp only [laws_szTermS.l0]; rw [if_neg (by omega)]) (fun i left hi h0 hl => h _ (mem_getD xs z28 i hi) left h0 hl) xs.length 0 _ (by omega) (show 0 ≤ cut xs.length left by omega) (by omega)
    refine Ev.eq hw ?_
    rw [cut_add (by omega), sumF_list wtTerm z28 xs xs.length 0 (by omega), wtTermS_sum]
    rfl
theorem szTerm_ev : ∀ x : S28, W28 x → ∀ left : Int, 0 ≤ left → left ≤ 1048576 → Ev (fun k => laws_szTerm.f k (x.f0) (x.f1) (x.f2) (x.f3.f0) (x.f3.f1) (x.f3.f2) (x.f4) (x.f5) left) (cut (wtTerm x) left) := by
  refine indTermL fun x ih hw left h0 hl => ?_
  refine Ev.up ?_
  simp only [laws_szTerm.f]
  rw [wtTerm_eq]
  have hb0 : (0 : Int) ≤ left ∧ left ≤ 1048576 := ⟨h0, hl⟩
  have hs0 := cut_sub (n := x.f1.size) hb0.1 hb0.2 (hw.p1)
  by_cases hc0 : cut (x.f1.size) left < 0
  · refine Ev.pos (hs0.1.2 hc0) (Ev.const ?_)
    have hn : cut (x.f1.size) left < 0 := hc0
    have hn : cut (x.f1.size + wtType x.f3) left < 0 := by rw [cut_add' hn]; omega
    have hn : cut (x.f1.size + wtType x.f3 + wts x.f4) left < 0 := by rw [cut_add' hn]; omega
    have hn : cut (x.f1.size + wtType x.f3 + wts x.f4 + (x.f5.length + wtTermS x.f5)) left < 0 := by rw [cut_add' hn]; omega
    have hv := cut_neg.1 hn; unfold cut; rw [if_neg hv]
  refine Ev.neg (fun h => hc0 (hs0.1.1 h)) ?_
  rw [hs0.2 (by omega)]
  have hb1 : (0 : Int) ≤ cut (x.f1.size) left ∧ cut (x.f1.size) left ≤ 1048576 := ⟨by omega, by have := cut_le (n := x.f1.size) h0; omega⟩
  refine Ev.bind (szType_ev x.f3 hw.p3 _ hb1.1 hb1.2) ?_
  by_cases hc1 : cut (wtType x.f3) (cut (x.f1.size) left) < 0
  · refine Ev.pos hc1 (Ev.const ?_)
    have hn : cut (x.f1.size + wtType x.f3) left < 0 := by rw [← cut_add (by omega)]; exact hc1
    have hn : cut (x.f1.size + wtType x.f3 + wts x.f4) left < 0 := by rw [cut_add' hn]; omega
    have hn : cut (x.f1.size + wtType x.f3 + wts x.f4 + (x.f5.length + wtTermS x.f5)) left < 0 := by rw [cut_add' hn]; omega
    have hv := cut_neg.1 hn; unfold cut; rw [if_neg hv]
  refine Ev.neg hc1 ?_
  rw [cut_add (by omega)] at hc1 ⊢
  have hb2 : (0 : Int) ≤ cut (x.f1.size + wtType x.f3) left ∧ cut (x.f1.size + wtType x.f3) left ≤ 1048576 := ⟨by omega, by have := cut_le (n := x.f1.size + wtType x.f3) h0; omega⟩
  refine Ev.bind (szStringS_ev x.f4 hw.p4 _ hb2.1 hb2.2) ?_
  by_cases hc2 : cut (wts x.f4) (cut (x.f1.size + wtType x.f3) left) < 0
  · refine Ev.pos hc2 (Ev.const ?_)
    have hn : cut (x.f1.size + wtType x.f3 + wts x.f4) left < 0 := by rw [← cut_add (by omega)]; exact hc2
    have hn : cut (x.f1.size + wtType x.f3 + wts x.f4 + (x.f5.length + wtTermS x.f5)) left < 0 := by rw [cut_add' hn]; omega
    have hv := cut_neg.1 hn; unfold cut; rw [if_neg hv]
  refine Ev.neg hc2 ?_
  rw [cut_add (by omega)] at hc2 ⊢
  have hb3 : (0 : Int) ≤ cut (x.f1.size + wtType x.f3 + wts x.f4) left ∧ cut (x.f1.size + wtType x.f3 + wts x.f4) left ≤ 1048576 := ⟨by omega, by have := cut_le (n := x.f1.size + wtType x.f3 + wts x.f4) h0; omega⟩
  refine Ev.bind (szTermS_of x.f5 hw.p5.1 (fun y hy => ih y hy (hw.p5.2 y hy)) _ hb3.1 hb3.2) ?_
  by_cases hc3 : cut ((x.f5.length + wtTermS x.f5)) (cut (x.f1.size + wtType x.f3 + wts x.f4) left) < 0
  · refine Ev.pos hc3 (Ev.const ?_)
    have hn : cut (x.f1.size + wtType x.f3 + wts x.f4 + (x.f5.length + wtTermS x.f5)) left < 0 := by rw [← cut_add (by omega)]; exact hc3
    have hv := cut_neg.1 hn; unfold cut; rw [if_neg hv]
  refine Ev.neg hc3 ?_
  rw [cut_add (by omega)] at hc3 ⊢
  have hb4 : (0 : Int) ≤ cut (x.f1.size + wtType x.f3 + wts x.f4 + (x.f5.length + wtTermS x.f5)) left ∧ cut (x.f1.size + wtType x.f3 + wts x.f4 + (x.f5.length + wtTermS x.f5)) left ≤ 1048576 := ⟨by omega, by have := cut_le (n := x.f1.size + wtType x.f3 + wts x.f4 + (x.f5.length + wtTermS x.f5)) h0; omega⟩
  exact Ev.const rfl
theorem toTermS_of (xs : List S28) (hx : xs.length ≤ 1048576) (h : ∀ y ∈ xs, Ev (fun k => laws_toTerm.f k (y.f0) (y.f1) (y.f2) (y.f3.f0) (y.f3.f1) (y.f3.f2) (y.f4) (y.f5)) ((cvTerm y).f0, (cvTerm y).f1, (cvTerm y).f2, (cvTerm y).f3.f0, (cvTerm y).f3.f1, (cvTerm y).f3.f2, (cvTerm y).f4, (cvTerm y).f5)) : Ev (fun k => laws_toTermS.f k xs) (cvTermS xs) := by
  refine Ev.up ?_
  simp only [laws_toTermS.f]
  refine Ev.pos (by omega) (Ev.pos (by omega) ?_)
  have hw := to_loop xs.length (fun k i => (laws_toTerm.f k ((rd_T28 xs (i : Int)).f0) ((rd_T28 xs (i : Int)).f1) ((rd_T28 xs (i : Int)).f2) ((rd_T28 xs (i : Int)).f3.f0) ((rd_T28 xs (i : Int)).f3.f1) ((rd_T28 xs (i : Int)).f3.f2) ((rd_T28 xs (i : Int)).f4) ((rd_T28 xs (i : Int)).f5)).map fun t => (⟨t.1, t.2.1, t.2.2.1, (⟨t.2.2.2.1, t.2.2.2.2.1, t.2.2.2.2.2.1⟩ : S33), t.2.2.2.2.2.2.1, t.2.2.2.2.2.2.2⟩ : S36)) (fun k out i => laws_toTermS.l0 k xs out (i : Int)) (fun i => cvTerm (xs.getD i z28)) (fun k out i hi hl => by
    simp only [laws_toTermS.l0]
    rw [if_pos (by omega), if_pos (by omega)]
    rcases laws_toTerm.f k ((rd_T28 xs (i : Int)).f0) ((rd_T28 xs (i : Int)).f1) ((rd_T28 xs (i : Int)).f2) ((rd_T28 xs (i : Int)).f3.f0) ((rd_T28 xs (i : Int)).f3.f1) ((rd_T28 xs (i : Int)).f3.f2) ((rd_T28 xs (i : Int)).f4) ((rd_T28 xs (i : Int)).f5) with _ | t
    · rfl
    · simp only [Option.map_some, Option.bind_some]
      rw [if_pos (by omega), w1' hi hx]
      rfl) (fun k out => by simp only [laws_toTermS.l0]; rw [if_neg (by omega)]) (fun i hi => Ev.eq (Ev.map (fun t => (⟨t.1, t.2.1, t.2.2.1, (⟨t.2.2.2.1, t.2.2.2.2.1, t.2.2.2.2.2.1⟩ : S33), t.2.2.2.2.2.2.1, t.2.2.2.2.2.2.2⟩ : S36)) (h _ (mem_getD xs z28 i hi))) (etaTerm _)) xs.length 0 (List.replicate ((xs.length : Int)).toNat z36) (by omega) (by simp)
  refine Ev.eq hw ?_
  rw [List.take_zero, List.nil_append, range_map_getElem cvTerm z28 xs, cvTermS_map]
theorem toTerm_ev : ∀ x : S28, wtTerm x ≤ 1048576 → Ev (fun k => laws_toTerm.f k (x.f0) (x.f1) (x.f2) (x.f3.f0) (x.f3.f1) (x.f3.f2) (x.f4) (x.f5)) ((cvTerm x).f0, (cvTerm x).f1, (cvTerm x).f2, (cvTerm x).f3.f0, (cvTerm x).f3.f1, (cvTerm x).f3.f2, (cvTerm x).f4, (cvTerm x).f5) := by
  refine indTermL fun x ih hw2 => ?_
  refine Ev.up ?_
  simp only [laws_toTerm.f]
  have hb := hw2
  rw [wtTerm_eq] at hb
  refine Ev.bind (toType_ev x.f3 (by omega)) ?_
  refine Ev.bind (toStringS_ev x.f4 (by unfold wts at hb; omega)) ?_
  refine Ev.bind (toTermS_of x.f5 (by omega) (fun y hy => ih y hy (by have := sum_le_of_mem wtTerm hy; rw [← wtTermS_sum] at this; omega))) ?_
  exact Ev.const (by rw [cvTerm_eq])
theorem eqTermS_of (xs : List S36) (hx : xs.length ≤ 1048576) (h : ∀ y ∈ xs, Ev (fun k => laws_eqTerm.f k (y.f0) (y.f1) (y.f2) (y.f3.f0) (y.f3.f1) (y.f3.f2) (y.f4) (y.f5) (y.f0) (y.f1) (y.f2) (y.f3.f0) (y.f3.f1) (y.f3.f2) (y.f4) (y.f5)) true) : Ev (fun k => laws_eqTermS.f k xs xs) true := by
  refine Ev.up ?_
  simp only [laws_eqTermS.f]
  refine Ev.pos (by simp) ?_
  exact eq_loop xs.length (fun k i => laws_eqTerm.f k ((rd_T36 xs (i : Int)).f0) ((rd_T36 xs (i : Int)).f1) ((rd_T36 xs (i : Int)).f2) ((rd_T36 xs (i : Int)).f3.f0) ((rd_T36 xs (i : Int)).f3.f1) ((rd_T36 xs (i : Int)).f3.f2) ((rd_T36 xs (i : Int)).f4) ((rd_T36 xs (i : Int)).f5) ((rd_T36 xs (i : Int)).f0) ((rd_T36 xs (i : Int)).f1) ((rd_T36 xs (i : Int)).f2) ((rd_T36 xs (i : Int)).f3.f0) ((rd_T36 xs (i : Int)).f3.f1) ((rd_T36 xs (i : Int)).f3.f2) ((rd_T36 xs (i : Int)).f4) ((rd_T36 xs (i : Int)).f5)) (fun k i => laws_eqTermS.l0 k xs xs (i : Int)) (fun k i hi => by
    simp only [laws_eqTermS.l0]
    rw [if_pos (by omega), if_pos (by omega), if_pos (by omega), w1' hi hx]) (fun k => by simp only [laws_eqTermS.l0]; rw [if_neg (by omega)]) (fun i hi => h _ (mem_getD xs z36 i hi)) xs.length 0 (by omega)
theorem eqTerm_ev : ∀ x : S36, SmTerm x → Ev (fun k => laws_eqTerm.f k (x.f0) (x.f1) (x.f2) (x.f3.f0) (x.f3.f1) (x.f3.f2) (x.f4) (x.f5) (x.f0) (x.f1) (x.f2) (x.f3.f0) (x.f3.f1) (x.f3.f2) (x.f4) (x.f5)) true := by
  refine indTermI fun x ih hs => ?_
  refine Ev.up ?_
  simp only [laws_eqTerm.f]
  refine Ev.pos (by simp) ?_
  refine Ev.pos (by simp) ?_
  refine Ev.pos (by simp) ?_
  refine Ev.bind (eqType_ev x.f3 hs.p3) (Ev.pos (by simp) ?_)
  refine Ev.bind (eqStringS_ev x.f4 hs.p4.1) (Ev.pos (by simp) ?_)
  refine Ev.bind (eqTermS_of x.f5 hs.p5.1 (fun y hy => ih y hy (hs.p5.2 y hy))) (Ev.pos (by simp) ?_)
  exact Ev.now _
end Go.Proofs.Ytfidfpmgoaainaa.Px
end
section
namespace Go.Proofs.Ytfidfpmgoaainaa.Px
open Go.RowKit Go.Proofs.Ytfidfpmgoaainaa.Ext Go.Proofs.YtfidfpmgoaainaaW.PrintWords Go.Proofs.YtfidfpmgoaainaaW.PrintLast Go.Proofs.YtfidfpmgoaainaaW.PrintMore
attribute [local go_sem] max2_int min2_int max_two min_two max_three min_three max_four min_four   -- for this text's walks alone
set_option linter.unusedVariables false
set_option linter.unusedSimpArgs false

-- NOT PRINTED: function 6 (laws_FnTerms)

/-! ### laws_markText: function 48 -/
def laws_markText.l0 : Nat → Int → ByteArray → Option (ByteArray)
  | 0, _, _ => none
  | k + 1, x0, x3 => if x0 > 0 then ((some (([(wrap64 (48 + (Int.tmod x0 10))) % 256] : List Int) : List Int)).bind fun y1165 => (if (strOfNums y1165).size + x3.size ≤ 9223372036854775807 then (laws_markText.l0 k (wrap64 (Int.tdiv x0 10)) ((strOfNums y1165) ++ x3)) else (none))) else (if 1 + x3.size ≤ 9223372036854775807 then (some ((⟨#[109]⟩ : ByteArray) ++ x3)) else (none))
def laws_markText.f (k : Nat) (a0 : Int) : Option (ByteArray) := if a0 ≤ 0 then (some (⟨#[109, 48]⟩ : ByteArray)) else (laws_markText.l0 k a0 (⟨#[]⟩ : ByteArray))
set_option maxHeartbeats 8000000 in
set_option maxRecDepth 100000 in
theorem laws_markText.calls (k : Nat) (a0 : Int) (r : ByteArray) (w : World) (h : laws_markText.f k a0 = some r) :
    Calls Try.prog 48 #[.int .i64 a0] w fun e w' => e = .returned (.string r) ∧ Below w.heap.size w w' := by
  have HB := Aside0.mk (Below.refl w.heap.size w)
  have H : (if a0 ≤ 0 then (some (⟨#[109, 48]⟩ : ByteArray)) else (laws_markText.l0 k a0 (⟨#[]⟩ : ByteArray))) = some r := h
  clear h
  by_cases c2 : a0 ≤ 0
  · rw [if_pos c2] at H
    have c2b0 : decide (a0 ≤ 0) = true := decide_eq_true c2
    clear c2
    obtain rfl := Option.some.inj H
    go_enter Try.func48, Try.ntmps48
    go_wp2
    go_ret
    exact ⟨by first | rfl | (simp [errW_none, errW_some] <;> rfl) | (simp [*, errW_none, errW_some] <;> rfl), by repeat (first | (with_reducible first | exact HB.out | apply below_alloc | apply pw_below_drewN | apply below_drew1) | exact HB.out)⟩
  · rw [if_neg c2] at H
    have c2b0 : decide (a0 ≤ 0) = false := decide_eq_false c2
    clear c2
    have H' := Aside0.mk H
    clear H
    go_enter Try.func48, Try.ntmps48
    go_wp2
    go_loopg [0, 3] k (fun kq v0 v3 w' => ∃ (x0_1 : Int) (x3_1 : ByteArray), v0 = .int .i64 x0_1 ∧ v3 = .string x3_1 ∧ Aside0 (laws_markText.l0 kq x0_1 x3_1 = some r) ∧ Aside0 (kq ≤ k) ∧ Aside0 (Below w.heap.size w w'))
    case atStart => exact ⟨(a0), ((⟨#[]⟩ : ByteArray)), (by first | rfl | (simp; done) | (simp [i64_w, i32_w]; done) | (simp [*]; done)), (by first | rfl | (simp; done) | (simp [i64_w, i32_w]; done) | (simp [*]; done)), H', ⟨Nat.le_refl _⟩, ⟨by repeat (first | (with_reducible first | exact HB.out | apply below_alloc | apply pw_below_drewN | apply below_drew1) | exact HB.out)⟩⟩
    case round =>
      clear H'
      try clear c2
      try clear c2b0
      try clear p2
      obtain ⟨x0_1, x3_1, rfl, rfl, HA, HK1, HB⟩ := hrel
      cases gk with
      | zero => exact absurd HA.out (by simp [laws_markText.l0])
      | succ k1 =>
        have H := HA.out
        clear HA
        simp only [laws_markText.l0] at H
        by_cases c3 : x0_1 > 0
        · rw [if_pos c3] at H
          have c3b0 : decide (0 < x0_1) = true := decide_eq_true c3
          clear c3
          obtain ⟨y1165, hy1165⟩ : ∃ y_ : List Int, y_ = (([(wrap64 (48 + (Int.tmod x0_1 10))) % 256] : List Int)) := ⟨_, rfl⟩
          replace H : (if (strOfNums y1165).size + x3_1.size ≤ 9223372036854775807 then (laws_markText.l0 k1 (wrap64 (Int.tdiv x0_1 10)) ((strOfNums y1165) ++ x3_1)) else (none)) = some r := by first | (rw [hy1165]; with_reducible exact H) | (have H2_ := (Option.bind_some _ _).symm.trans H; rw [hy1165]; with_reducible exact H2_) | (have H2_ := (Option.bind_some _ _).symm.trans H; with_reducible exact H2_) | with_reducible exact H | (rw [hy1165]; exact H) | exact H
          have Ny1165 := Aside0.mk hy1165
          clear hy1165
          by_cases c4 : (strOfNums y1165).size + x3_1.size ≤ 9223372036854775807
          · rw [if_pos c4] at H
            have c4b0 := eq_true c4
            have c4b1 : decide ((strOfNums y1165).size + x3_1.size ≤ 9223372036854775807) = true := decide_eq_true c4
            try have c4b2 : (9223372036854775807 < (strOfNums y1165).size + x3_1.size) = False := eq_false (Nat.not_lt.2 c4)
            have H' := Aside0.mk H
            clear H
            go_wp2_with (first | ((with_reducible refine gate_dst (N := 12) rfl ?_); refine Kd.R_lit (Kd.int .u8) _ 5 ?hg (N := 12) ?hd (xs := ([(wrap64 (48 + (Int.tmod x0_1 10))) % 256] : List Int)) (inner := [.int .u8 ((wrap64 (48 + (Int.tmod x0_1 10))) % 256)]) (ok := fun _ => True) (okp := fun _ => True) ?hr ?hp (fun _ hk => hk) trivial (Below.refl _ _) (Nat.le_refl _) (by simp) ?_; (case hd => rfl); (case hg => rfl); (case hr => first | (go_simp; done) | (go_simp; rfl)); (case hp => exact (Reps.one (show Kd.M (Kd.int .u8) _ _ _ ((wrap64 (48 + (Int.tmod x0_1 10))) % 256) [.int .u8 ((wrap64 (48 + (Int.tmod x0_1 10))) % 256)] from rfl) (Reps.none _ _))); intro v1166 w5 ho6 hb hg_ hnew_; clear hg_ hnew_; (first | rw [← Ny1165.out] at ho6 | (simp only [Int.reduceToNat] at ho6; rw [← Ny1165.out] at ho6)); have n0_ := Aside0.mk (Kd.R_lower ho6 (below_size (by repeat (first | (with_reducible first | exact HB.out | apply below_alloc | apply pw_below_drewN | apply below_drew1) | exact HB.out)))); have n1_ := Aside0.mk (below_step (by repeat (first | (with_reducible first | exact HB.out | apply below_alloc | apply pw_below_drewN | apply below_drew1) | exact HB.out)) hb); clear HB; have HO1167 := n0_; have HB := n1_; clear n0_ n1_; clear hb ho6; have hcv7 := own_string (P := Try.prog) Try.underlying44 Try.underlying5 Try.underlying9 (Kd.own_of_R HO1167.out)))
            go_roundg k1
            case measure => have := HK1.out; omega
            case rel => exact ⟨(wrap64 (Int.tdiv x0_1 10)), ((strOfNums y1165) ++ x3_1), (by first | rfl | (simp; done) | (simp [i64_w, i32_w]; done) | (simp [*]; done)), (by first | rfl | (simp; done) | (simp [i64_w, i32_w]; done) | (simp [*]; done)), H', ⟨by have := HK1.out; omega⟩, ⟨by repeat (first | (with_reducible first | exact HB.out | apply below_alloc | apply pw_below_drewN | apply below_drew1) | exact HB.out)⟩⟩
          · rw [if_neg c4] at H
            exact absurd H (by simp)
        · rw [if_neg c3] at H
          have c3b0 : decide (0 < x0_1) = false := decide_eq_false c3
          clear c3
          by_cases c8 : 1 + x3_1.size ≤ 9223372036854775807
          · rw [if_pos c8] at H
            have c8b0 := eq_true c8
            have c8b1 : decide (1 + x3_1.size ≤ 9223372036854775807) = true := decide_eq_true c8
            try have c8b2 : (9223372036854775807 < 1 + x3_1.size) = False := eq_false (Nat.not_lt.2 c8)
            obtain rfl := Option.some.inj H
            go_wp2
            go_ret
            exact ⟨by first | rfl | (simp [errW_none, errW_some] <;> rfl) | (simp [*, errW_none, errW_some] <;> rfl), by repeat (first | (with_reducible first | exact HB.out | apply below_alloc | apply pw_below_drewN | apply below_drew1) | exact HB.out)⟩
          · rw [if_neg c8] at H
            exact absurd H (by simp)

/-! ### laws_markStringS: function 16 -/
def laws_markStringS.l0 : Nat → List ByteArray → Int → Int → Option (Int × List ByteArray)
  | 0, _, _, _ => none
  | k + 1, x0, x1, x5 => if x5 < (x0.length : Int) then ((laws_markText.f k x1).bind fun t1168 => (if 0 ≤ x5 then (laws_markStringS.l0 k (x0.set (x5 : Int).toNat t1168) (wrap64 (x1 + 1)) (wrap64 (x5 + 1))) else (none))) else (some (x1, x0))
def laws_markStringS.f (k : Nat) (l0 : List ByteArray) (a1 : Int) : Option (Int × List ByteArray) := laws_markStringS.l0 k l0 a1 0
set_option maxHeartbeats 8000000 in
set_option maxRecDepth 100000 in
theorem laws_markStringS.calls (k : Nat) (P0_ : Nat → Prop) (u9000_ : Value) (l0 : List ByteArray) (a1 : Int) (r1 : Int) (r2 : List ByteArray) (w0 w : World) (hB : Below w0.heap.size w0 w) (ho0 : Kd.R Kd.string 9 w w0.heap.size P0_ u9000_ l0) (h : laws_markStringS.f k l0 a1 = some (r1, r2)) :
    Calls Try.prog 16 #[u9000_, .int .i64 a1] w fun e w' => e = .returned (.int .i64 r1) ∧ Kd.R Kd.string 9 w' w0.heap.size (fun k_ => (P0_ k_ ∨ w.heap.size ≤ k_)) u9000_ r2 ∧ Below w0.heap.size w0 w' ∧ Kept w w' (fun k_ => P0_ k_) := by
  have HO0 := Aside0.mk (show Kd.R Kd.string 9 w w0.heap.size (fun k_ => (P0_ k_ ∨ w.heap.size ≤ k_)) u9000_ l0 from Kd.R_mono ho0 (fun k_ hk => (.inl hk)))
  have HK := Aside0.mk (Kept.refl w (fun k_ => P0_ k_))
  have HW0 := Aside0.mk hB.size
  have HB := Aside0.mk hB
  clear hB
  have H : (laws_markStringS.l0 k l0 a1 0) = some (r1, r2) := h
  clear h
  have H' := Aside0.mk H
  clear H
  go_enter Try.func16, Try.ntmps16
  go_wp2
  go_loopg [1, 5] k (fun kq v1 v5 w' => ∃ (x0_1 : List ByteArray) (x1_1 : Int) (x5_1 : Int), v1 = .int .i64 x1_1 ∧ v5 = .int .i64 x5_1 ∧ Aside0 (laws_markStringS.l0 kq x0_1 x1_1 x5_1 = some (r1, r2)) ∧ Aside0 (kq ≤ k) ∧ Aside0 (Kd.R Kd.string 9 w' w0.heap.size (fun k_ => (P0_ k_ ∨ w.heap.size ≤ k_)) u9000_ x0_1) ∧ Aside0 (Kept w w' (fun k_ => P0_ k_)) ∧ Aside0 (Below w0.heap.size w0 w'))
  case atStart => exact ⟨(l0), (a1), (0), (by first | rfl | (simp; done) | (simp [i64_w, i32_w]; done) | (simp [*]; done)), (by first | rfl | (simp; done) | (simp [i64_w, i32_w]; done) | (simp [*]; done)), H', ⟨Nat.le_refl _⟩, ⟨by (with_reducible repeat (first | apply Kd.R_alloc | apply Kd.R_drewN | apply Kd.R_drew)); exact HO0.out⟩, ⟨by repeat (first | (with_reducible first | exact HK.out | apply Kept.alloc | apply Kept.drewN | apply Kept.drew) | exact HK.out)⟩, ⟨by repeat (first | (with_reducible first | exact HB.out | apply below_alloc | apply pw_below_drewN | apply below_drew1) | exact HB.out)⟩⟩
  case round =>
    clear H'
    try clear c1
    try clear p2
    obtain ⟨x0_1, x1_1, x5_1, rfl, rfl, HA, HK1, HO_0, HK, HB⟩ := hrel
    cases gk with
    | zero => exact absurd HA.out (by simp [laws_markStringS.l0])
    | succ k1 =>
      have H := HA.out
      clear HA
      simp only [laws_markStringS.l0] at H
      by_cases c3 : x5_1 < (x0_1.length : Int)
      · rw [if_pos c3] at H
        have c3b0 : decide (x5_1 < (x0_1.length : Int)) = true := decide_eq_true c3
        clear c3
        replace H := Option.bind_eq_some_iff.mp H
        obtain ⟨t1168, A40, H⟩ := H
        replace H : (if 0 ≤ x5_1 then (laws_markStringS.l0 k1 (x0_1.set (x5_1 : Int).toNat t1168) (wrap64 (x1_1 + 1)) (wrap64 (x5_1 + 1))) else (none)) = some (r1, r2) := H
        have A4 := Aside0.mk A40
        clear A40
        by_cases c5 : 0 ≤ x5_1
        · rw [if_pos c5] at H
          have c5b0 : decide (0 ≤ x5_1) = true := decide_eq_true c5
          clear c5
          obtain ⟨y1169, hy1169⟩ : ∃ y_ : List ByteArray, y_ = (x0_1.set (x5_1 : Int).toNat t1168) := ⟨_, rfl⟩
          replace H : (laws_markStringS.l0 k1 y1169 (wrap64 (x1_1 + 1)) (wrap64 (x5_1 + 1))) = some (r1, r2) := by first | (rw [hy1169]; with_reducible exact H) | (have H2_ := (Option.bind_some _ _).symm.trans H; rw [hy1169]; with_reducible exact H2_) | (have H2_ := (Option.bind_some _ _).symm.trans H; with_reducible exact H2_) | with_reducible exact H | (rw [hy1169]; exact H) | exact H
          have Ny1169 := Aside0.mk hy1169
          clear hy1169
          have H' := Aside0.mk H
          clear H
          obtain ⟨Ao7, co7, eo7⟩ := Kd.R_slice HO_0.out
          subst eo7
          go_wp2_with (first | ((with_reducible refine gate_callee (f := 48) rfl ?_); refine goesL_ (some 15) rfl rfl Try.func48 (by kernel_rfl) rfl #[.int .i64 x1_1] rfl (by (try simp only [List.map_toArray, List.map_cons, List.map_nil]); first | done | rfl | (simp only [List.length_drop, List.length_take]; rfl)) ?_; (with_reducible refine (laws_markText.calls k1 x1_1 t1168 _ A4.out).mono ?_); rintro e w8 ⟨rfl, hb⟩; refine ⟨_, rfl, ?_⟩; have n0_ := Aside0.mk (Kd.R_below (by (with_reducible repeat (first | apply Kd.R_alloc | apply Kd.R_drewN | apply Kd.R_drew)); exact HO_0.out) hb); have n1_ := Aside0.mk (Kept.below (S := (fun k_ => P0_ k_)) (by repeat (first | (with_reducible first | exact HK.out | apply Kept.alloc | apply Kept.drewN | apply Kept.drew) | exact HK.out)) hb); have n2_ := Aside0.mk (below_step (by repeat (first | (with_reducible first | exact HB.out | apply below_alloc | apply pw_below_drewN | apply below_drew1) | exact HB.out)) hb); clear HO_0; clear HK; clear HB; have HO_0 := n0_; have HK := n1_; have HB := n2_; clear n0_ n1_ n2_; (try clear hb); (try clear hb2); (try clear hk); (try clear hi); have p6 : 0 ≤ (x5_1 : Int) := of_decide_eq_true (by first | (with_reducible assumption) | assumption); have q6 : (x5_1 : Int) < ((x0_1.length : Int) : Int) := of_decide_eq_true (by first | (with_reducible assumption) | assumption); obtain ⟨go6, co6, eo6, gb6, gl6, cl6, HG6⟩ := Kd.R_form HO_0.out (by omega); (first | cases eo6 | (injection eo6 with ea_ en_ ec_; (first | subst ea_ | (injection ea_ with ea_; subst ea_)); subst ec_; clear en_)); have GB6 := Aside0.mk gb6; have GG6 := Aside0.mk HG6; clear gb6 gl6 HG6; have HMgo6 := Aside0.mk (show (P0_ go6 ∨ w.heap.size ≤ go6) from (HO_0.out.1 _ rfl)); obtain ⟨hx6_0, hf6_0⟩ := Kd.R_celln (⟨#[]⟩ : ByteArray) HO_0.out (x5_1 : Int) p6 q6; replace p6 := eq_true p6; replace q6 := eq_true q6; obtain ⟨hy9_, hz9_⟩ := Kd.R_celln (⟨#[]⟩ : ByteArray) HO_0.out (x5_1 : Int) (of_decide_eq_true (by first | (with_reducible assumption) | assumption)) (of_decide_eq_true (by first | (with_reducible assumption) | assumption)); have HP9 := Kd.R_putg HO_0.out (x5_1 : Int) t1168) | ((with_reducible refine gate_store (t := 9) (p := 16) rfl ?_); refine store_event (t := 9) (p := 16) (v := ?vo_w10) (w1 := (w8.setCell ⟨go6, (x5_1 : Int).toNat, none⟩ (.string t1168))) ?hg ?ho ?hn ?hr ?_; (case ho => rfl); (case hg => rfl); (case hn => rfl); (case hr => first | (go_simp; done) | (go_simp; rfl)); intro w10 hw; have hg : w8.grownBy w10 (some go6) := (by rw [hw]; exact HP9.2); have hp_ : Kd.R Kd.string 9 w10 w0.heap.size (fun k_ => (P0_ k_ ∨ w.heap.size ≤ k_)) (.slice (some ⟨go6, 0, none⟩) x0_1.length co7) y1169 := (by rw [hw, Ny1169.out]; exact HP9.1); clear HP9; have n0_ := Aside0.mk (hp_); have n1_ := Aside0.mk ((by rw [hw]; exact below_set (HB.out) GB6.out : Below w0.heap.size w0 w10)); have n2_ := Aside0.mk (Kept.of_grown (S := (fun k_ => P0_ k_)) hg (by repeat (first | (with_reducible first | exact HK.out | apply Kept.alloc | apply Kept.drewN | apply Kept.drew) | exact HK.out)) (fun k_ e_ => (HO_0.out.1 k_ e_))); clear HO_0; clear HB; clear HK; have HO_0 := n0_; have HB := n1_; have HK := n2_; clear n0_ n1_ n2_; clear hg hw hp_))
          go_roundg k1
          case measure => have := HK1.out; omega
          case rel => exact ⟨(y1169), (wrap64 (x1_1 + 1)), (wrap64 (x5_1 + 1)), (by first | rfl | (simp; done) | (simp [i64_w, i32_w]; done) | (simp [*]; done)), (by first | rfl | (simp; done) | (simp [i64_w, i32_w]; done) | (simp [*]; done)), H', ⟨by have := HK1.out; omega⟩, ⟨by (with_reducible repeat (first | apply Kd.R_alloc | apply Kd.R_drewN | apply Kd.R_drew)); exact HO_0.out⟩, ⟨by repeat (first | (with_reducible first | exact HK.out | apply Kept.alloc | apply Kept.drewN | apply Kept.drew) | exact HK.out)⟩, ⟨by repeat (first | (with_reducible first | exact HB.out | apply below_alloc | apply pw_below_drewN | apply below_drew1) | exact HB.out)⟩⟩
        · rw [if_neg c5] at H
          exact absurd H (by simp)
      · rw [if_neg c3] at H
        have c3b0 : decide (x5_1 < (x0_1.length : Int)) = false := decide_eq_false c3
        clear c3
        simp only [Option.some.injEq, Prod.mk.injEq] at H
        obtain ⟨rfl, rfl⟩ := H
        obtain ⟨Ao11, co11, eo11⟩ := Kd.R_slice HO_0.out
        subst eo11
        go_wp2
        go_ret
        exact ⟨by first | rfl | (simp [errW_none, errW_some] <;> rfl) | (simp [*, errW_none, errW_some] <;> rfl), by (with_reducible repeat (first | apply Kd.R_alloc | apply Kd.R_drewN | apply Kd.R_drew)); exact HO_0.out, by repeat (first | (with_reducible first | exact HB.out | apply below_alloc | apply pw_below_drewN | apply below_drew1) | exact HB.out), by repeat (first | (with_reducible first | exact HK.out | apply Kept.alloc | apply Kept.drewN | apply Kept.drew) | exact HK.out)⟩

-- NOT PRINTED: function 73 (laws_markTypeS)

-- NOT PRINTED: function 46 (laws_markType)

-- NOT PRINTED: function 47 (laws_markTermS)

-- NOT PRINTED: function 15 (laws_markTerm)

/-! ### laws_heldStringS: function 17 -/
def laws_heldStringS.l0 : Nat → List ByteArray → Int → Int → Option (Int)
  | 0, _, _, _ => none
  | k + 1, x0, x1, x5 => if x5 < (x0.length : Int) then (if 0 ≤ x5 then ((laws_markText.f k x1).bind fun t1175 => (if (rdOf ByteArray.empty x0 x5).toList = t1175.toList then (laws_heldStringS.l0 k x0 (wrap64 (x1 + 1)) (wrap64 (x5 + 1))) else (some (-1)))) else (none)) else (some x1)
def laws_heldStringS.f (k : Nat) (l0 : List ByteArray) (a1 : Int) : Option (Int) := laws_heldStringS.l0 k l0 a1 0
set_option maxHeartbeats 8000000 in
set_option maxRecDepth 100000 in
theorem laws_heldStringS.calls (k : Nat) (A0 : Option Addr) (c0 : Nat) (l0 : List ByteArray) (a1 : Int) (r : Int) (w : World) (hr0 : Kd.C Kd.string w A0 l0.length l0) (hc0 : l0.length ≤ c0) (h : laws_heldStringS.f k l0 a1 = some r) :
    Calls Try.prog 17 #[.slice A0 l0.length c0, .int .i64 a1] w fun e w' => e = .returned (.int .i64 r) ∧ Below w.heap.size w w' := by
  have HR0 := Aside0.mk hr0
  have HC0 := Aside0.mk hc0
  clear hr0 hc0
  have HB := Aside0.mk (Below.refl w.heap.size w)
  have H : (laws_heldStringS.l0 k l0 a1 0) = some r := h
  clear h
  have H' := Aside0.mk H
  clear H
  go_enter Try.func17, Try.ntmps17
  go_wp2
  go_loopg [1, 5] k (fun kq v1 v5 w' => ∃ (x1_1 : Int) (x5_1 : Int), v1 = .int .i64 x1_1 ∧ v5 = .int .i64 x5_1 ∧ Aside0 (laws_heldStringS.l0 kq l0 x1_1 x5_1 = some r) ∧ Aside0 (kq ≤ k) ∧ Aside0 (Below w.heap.size w w'))
  case atStart => exact ⟨(a1), (0), (by first | rfl | (simp; done) | (simp [i64_w, i32_w]; done) | (simp [*]; done)), (by first | rfl | (simp; done) | (simp [i64_w, i32_w]; done) | (simp [*]; done)), H', ⟨Nat.le_refl _⟩, ⟨by repeat (first | (with_reducible first | exact HB.out | apply below_alloc | apply pw_below_drewN | apply below_drew1) | exact HB.out)⟩⟩
  case round =>
    clear H'
    try clear c1
    try clear p2
    obtain ⟨x1_1, x5_1, rfl, rfl, HA, HK1, HB⟩ := hrel
    cases gk with
    | zero => exact absurd HA.out (by simp [laws_heldStringS.l0])
    | succ k1 =>
      have H := HA.out
      clear HA
      simp only [laws_heldStringS.l0] at H
      by_cases c3 : x5_1 < (l0.length : Int)
      · rw [if_pos c3] at H
        have c3b0 : decide (x5_1 < (l0.length : Int)) = true := decide_eq_true c3
        clear c3
        by_cases c4 : 0 ≤ x5_1
        · rw [if_pos c4] at H
          have c4b0 : decide (0 ≤ x5_1) = true := decide_eq_true c4
          clear c4
          replace H := Option.bind_eq_some_iff.mp H
          obtain ⟨t1175, A50, H⟩ := H
          replace H : (if (rdOf ByteArray.empty l0 x5_1).toList = t1175.toList then (laws_heldStringS.l0 k1 l0 (wrap64 (x1_1 + 1)) (wrap64 (x5_1 + 1))) else (some (-1))) = some r := H
          have A5 := Aside0.mk A50
          clear A50
          have HC6 := Aside0.mk H
          clear H
          try go_wp2
          have n0_ := Aside0.mk (below_drew1 HB.out)
          clear HB
          have HB := n0_
          clear n0_
          have p1174 : 0 ≤ (x5_1 : Int) := of_decide_eq_true (by first | (with_reducible assumption) | assumption)
          have q1174 : x5_1 < (l0.length : Int) := of_decide_eq_true (by first | (with_reducible assumption) | assumption)
          obtain ⟨ad1174, e1174, hx1174_0⟩ := Kd.at_string HR0.out x5_1 p1174 q1174
          have hw1174_0 := hx1174_0
          cases e1174
          replace hx1174_0 := (HB.out.cell (World.block_lt_of_cell? w _ hx1174_0)).trans hx1174_0
          replace p1174 := eq_true p1174
          replace q1174 := eq_true q1174
          refine start_ (n := 7) (S := fun w' => w'.cell? (ad1174.add (x5_1).toNat) = some (.string (rdOf ByteArray.empty l0 x5_1))) (ds := []) #[false, false, false, false, false, false, false] (by kernel_rfl) rfl rfl (((HB.out.cell (World.block_lt_of_cell? w _ hw1174_0)).trans hw1174_0)) (fun hHeld => ?_)
          generalize wr.drew = w7 at HB hx1174_0 hHeld ⊢
          refine pure_ (i := 0) (N := some 12) (v := ?_) (a' := ?_) #[true, false, false, false, false, false, false] rfl rfl (by kernel_rfl) (fun _ _ _ h => h) (Or.inl ⟨by rfl, ?_⟩) ?_ ?_
          rotate_left
          · intro w'
            go_simp
            with_reducible rfl
          rotate_left
          · simp only [Act.put, List.setIfInBounds_toArray, List.set_cons_zero, List.set_cons_succ, i64_w, i32_w]
            rfl
          refine pure_ (i := 1) (N := some 13) (v := ?_) (a' := ?_) #[true, true, false, false, false, false, false] rfl rfl (by kernel_rfl) (fun _ _ _ h => h) (Or.inl ⟨by rfl, ?_⟩) ?_ ?_
          rotate_left
          · intro w'
            go_simp
            with_reducible rfl
          rotate_left
          · simp only [Act.put, List.setIfInBounds_toArray, List.set_cons_zero, List.set_cons_succ, i64_w, i32_w]
            rfl
          refine pure_ (i := 2) (N := some 14) (v := ?_) (a' := ?_) #[true, true, true, false, false, false, false] rfl rfl (by kernel_rfl) (fun _ _ _ h => h) (Or.inl ⟨by rfl, ?_⟩) ?_ ?_
          rotate_left
          · intro w'
            go_simp
            with_reducible rfl
          rotate_left
          · simp only [Act.put, List.setIfInBounds_toArray, List.set_cons_zero, List.set_cons_succ, i64_w, i32_w]
            rfl
          refine pure_ (i := 4) (N := some 16) (v := ?_) (a' := ?_) #[true, true, true, false, true, false, false] rfl rfl (by kernel_rfl) (fun _ _ _ h => h) (Or.inl ⟨by rfl, ?_⟩) ?_ ?_
          rotate_left
          · intro w'
            go_simp
            with_reducible rfl
          rotate_left
          · simp only [Act.put, List.setIfInBounds_toArray, List.set_cons_zero, List.set_cons_succ, i64_w, i32_w]
            rfl
          refine take_ (i := 3) (N := some 15) (v := ?_) (a' := ?_) #[true, true, true, true, true, false, false] rfl rfl (by kernel_rfl) (fun _ _ _ h => h) (Or.inl ⟨by rfl, ?_⟩) hHeld ?_ ?_
          rotate_left
          · intro w' s0
            go_simp
            with_reducible rfl
          rotate_left
          · simp only [Act.put, List.setIfInBounds_toArray, List.set_cons_zero, List.set_cons_succ, i64_w, i32_w]
            rfl
          refine one_ (i := 5) (N := some 17) #[true, true, true, true, true, true, false] rfl rfl (by kernel_rfl) (by decide) (fun K hK => ?_)
          refine goes_ Try.func48 (by kernel_rfl) rfl #[.int .i64 x1_1] (by rfl) rfl rfl (by (try simp only [List.map_toArray, List.map_cons, List.map_nil]); first | done | rfl | (simp only [List.length_drop, List.length_take]; rfl)) ?_
          with_reducible refine (laws_markText.calls k1 x1_1 t1175 _ A5.out).mono ?_
          rintro e w8 ⟨rfl, hb⟩
          refine ⟨_, rfl, ?_⟩
          have n0_ := Aside0.mk (below_step (by repeat (first | (with_reducible first | exact HB.out | apply below_alloc | apply pw_below_drewN | apply below_drew1) | exact HB.out)) hb)
          clear HB
          have HB := n0_
          clear n0_
          (try clear hb)
          (try clear hb2)
          (try clear hk)
          (try clear hi)
          refine hK.out _ _ (((HB.out.cell (World.block_lt_of_cell? w _ hw1174_0)).trans hw1174_0)) (fun hHeld => ?_)
          clear hK K
          refine norm_ (a' := ?_) ?_ ?_
          rotate_left
          · show Act.put _ (some 17) _ = _
            simp only [Act.put, List.setIfInBounds_toArray, List.set_cons_zero, List.set_cons_succ, i64_w, i32_w]
            rfl
          refine pure_ (i := 6) (N := some 18) (v := ?_) (a' := ?_) #[true, true, true, true, true, true, true] rfl rfl (by kernel_rfl) (fun _ _ _ h => h) (Or.inl ⟨by rfl, ?_⟩) ?_ ?_
          rotate_left
          · intro w'
            go_simp
            with_reducible rfl
          rotate_left
          · simp only [Act.put, List.setIfInBounds_toArray, List.set_cons_zero, List.set_cons_succ, i64_w, i32_w]
            rfl
          refine done_ (by kernel_rfl) ?_
          go_upto_if 18 with (fail)
          have H := HC6.out
          clear HC6
          by_cases c9 : (rdOf ByteArray.empty l0 x5_1).toList = t1175.toList
          · rw [if_pos c9] at H
            have c9b0 : ((rdOf ByteArray.empty l0 x5_1).toList == t1175.toList) = true := beq_iff_eq.mpr c9
            have c9b1 : ((rdOf ByteArray.empty l0 x5_1).toList != t1175.toList) = false := bne_eq_false_iff_eq.mpr c9
            clear c9
            (first | rw [c9b0] | (simp only [i64_w, i32_w]; rw [c9b0]) | (rw [c9b1]; (try simp only [Bool.not_true, Bool.not_false])) | skip)
            have H' := Aside0.mk H
            clear H
            go_wp2
            go_roundg k1
            case measure => have := HK1.out; omega
            case rel => exact ⟨(wrap64 (x1_1 + 1)), (wrap64 (x5_1 + 1)), (by first | rfl | (simp; done) | (simp [i64_w, i32_w]; done) | (simp [*]; done)), (by first | rfl | (simp; done) | (simp [i64_w, i32_w]; done) | (simp [*]; done)), H', ⟨by have := HK1.out; omega⟩, ⟨by repeat (first | (with_reducible first | exact HB.out | apply below_alloc | apply pw_below_drewN | apply below_drew1) | exact HB.out)⟩⟩
          · rw [if_neg c9] at H
            have c9b0 : ((rdOf ByteArray.empty l0 x5_1).toList == t1175.toList) = false := beq_eq_false_iff_ne.mpr c9
            have c9b1 : ((rdOf ByteArray.empty l0 x5_1).toList != t1175.toList) = true := bne_iff_ne.mpr c9
            (first | rw [c9b0] | (simp only [i64_w, i32_w]; rw [c9b0]) | (rw [c9b1]; (try simp only [Bool.not_true, Bool.not_false])) | skip)
            obtain rfl := Option.some.inj H
            go_wp2
            go_ret
            exact ⟨by first | rfl | (simp [errW_none, errW_some] <;> rfl) | (simp [*, errW_none, errW_some] <;> rfl), by repeat (first | (with_reducible first | exact HB.out | apply below_alloc | apply pw_below_drewN | apply below_drew1) | exact HB.out)⟩
        · rw [if_neg c4] at H
          exact absurd H (by simp)
      · rw [if_neg c3] at H
        have c3b0 : decide (x5_1 < (l0.length : Int)) = false := decide_eq_false c3
        clear c3
        obtain rfl := Option.some.inj H
        go_wp2
        go_ret
        exact ⟨by first | rfl | (simp [errW_none, errW_some] <;> rfl) | (simp [*, errW_none, errW_some] <;> rfl), by repeat (first | (with_reducible first | exact HB.out | apply below_alloc | apply pw_below_drewN | apply below_drew1) | exact HB.out)⟩

-- NOT PRINTED: function 5 (laws_FnExactTablesIn)

end Go.Proofs.Ytfidfpmgoaainaa.Px
end
section
namespace Go.Proofs.Ytfidfpmgoaainaa.Px
open Go.RowKit Go.Proofs.YtfidfpmgoaainaaW.PrintWords Go.Proofs.YtfidfpmgoaainaaW.PrintLast Go.Proofs.Ytfidfpmgoaainaa.Pl Go.Proofs.Ytfidfpmgoaainaa.Ext
set_option linter.unusedVariables false
set_option linter.unusedSimpArgs false
theorem strOne (n : Int) : (strOfNums [n]).size = 1 := by simp [strOfNums]; rfl
theorem markLoop_ex : ∀ (m : Nat) (x : Int) (s : ByteArray), 0 ≤ x → x ≤ 4611686018427387904 → x < (10 : Int) ^ m → s.size + m ≤ 1000 → ∃ r, Ev (fun k => laws_markText.l0 k x s) r := by
  intro m
  induction m with
  | zero =>
    intro x s h0 hb h1 hs
    refine ⟨(⟨#[109]⟩ : ByteArray) ++ s, Ev.up ?_⟩
    simp only [laws_markText.l0]
    exact Ev.neg (by simp at h1; omega) (Ev.pos (by omega) (Ev.now _))
  | succ m ih =>
    intro x s h0 hb h1 hs
    by_cases hx : x > 0
    · have ht : Int.tdiv x 10 = x / 10 := Int.tdiv_eq_ediv_of_nonneg h0
      have hw : wrap64 (Int.tdiv x 10) = x / 10 := by rw [ht]; exact w64 (by omega) (by omega)
      have hl : x / 10 < (10 : Int) ^ m := by
        rw [Int.pow_succ] at h1
        omega
      obtain ⟨r, hr⟩ := ih (x / 10) (strOfNums [(wrap64 (48 + (Int.tmod x 10))) % 256] ++ s) (by omega) (by omega) hl (by rw [ByteArray.size_append, strOne]; omega)
      refine ⟨r, Ev.up ?_⟩
      simp only [laws_markText.l0]
      refine Ev.pos hx ?_
      refine Ev.none_bind (Ev.pos (by rw [strOne]; omega) ?_)
      rw [hw]
      exact hr
    · refine ⟨(⟨#[109]⟩ : ByteArray) ++ s, Ev.up ?_⟩
      simp only [laws_markText.l0]
      exact Ev.neg hx (Ev.pos (by omega) (Ev.now _))
theorem markText_ex (a : Int) (hb : a ≤ 4611686018427387904) : ∃ r, Ev (fun k => laws_markText.f k a) r := by
  by_cases h : a ≤ 0
  · refine ⟨(⟨#[109, 48]⟩ : ByteArray), ?_⟩
    simp only [laws_markText.f]
    exact Ev.pos h (Ev.now _)
  · obtain ⟨r, hr⟩ := markLoop_ex 19 a ⟨#[]⟩ (by omega) hb (by omega) (by decide)
    refine ⟨r, ?_⟩
    simp only [laws_markText.f]
    exact Ev.neg h hr
open Classical in
/-- The text that marks k. -/
noncomputable def mt (a : Int) : ByteArray := if h : ∃ r, Ev (fun k => laws_markText.f k a) r then h.choose else ⟨#[]⟩
theorem mt_ev (a : Int) (hb : a ≤ 4611686018427387904) : Ev (fun k => laws_markText.f k a) (mt a) := by
  have h := markText_ex a hb
  unfold mt
  rw [dif_pos h]
  exact h.choose_spec
noncomputable def mtS (a : Int) : Nat → List ByteArray
  | 0 => []
  | n + 1 => mt a :: mtS (a + 1) n
theorem mtS_length : ∀ (n : Nat) (a : Int), (mtS a n).length = n
  | 0, _ => rfl
  | n + 1, a => by simp [mtS, mtS_length n]
theorem markLoopS_ev (xs : List ByteArray) (hx : xs.length ≤ 2097152) : ∀ (m i : Nat) (out : List ByteArray) (a : Int), i + m = xs.length → out.length = xs.length → 0 ≤ a → a + m ≤ 4611686018427387904 →
    Ev (fun k => laws_markStringS.l0 k out a (i : Int)) (a + m, out.take i ++ mtS a m) := by
  intro m
  induction m with
  | zero =>
    intro i out a hi hl h0 hb
    refine Ev.up ?_
    simp only [laws_markStringS.l0]
    refine Ev.neg (by omega) (Ev.const ?_)
    rw [List.take_of_length_le (by omega)]
    simp [mtS]
  | succ m ih =>
    intro i out a hi hl h0 hb
    refine Ev.up ?_
    simp only [laws_markStringS.l0]
    refine Ev.pos (by omega) (Ev.bind (mt_ev a (by omega)) (Ev.pos (by omega) ?_))
    rw [w1 (show i < xs.length by omega) (by unfold maxLen; omega), show wrap64 (a + 1) = a + 1 from w64 (by omega) (by omega)]
    refine Ev.eq (ih (i + 1) (out.set i (mt a)) (a + 1) (by omega) (by simpa using hl) (by omega) (by omega)) ?_
    rw [List.take_succ_eq_append_getElem (by simp; omega)]
    simp only [List.getElem_set_self, List.take_set_of_le (Nat.le_refl i), mtS, List.append_assoc, List.singleton_append, Prod.mk.injEq, and_true]
    omega
theorem markStringS_ev (xs : List ByteArray) (hx : xs.length ≤ 2097152) (a : Int) (h0 : 0 ≤ a) (hb : a + xs.length ≤ 4611686018427387904) : Ev (fun k => laws_markStringS.f k xs a) (a + xs.length, mtS a xs.length) := by
  simp only [laws_markStringS.f]
  simpa using markLoopS_ev xs hx xs.length 0 xs a (by omega) rfl h0 hb
theorem mtS_getD (d : ByteArray) : ∀ (n i : Nat) (a : Int), i < n → (mtS a n).getD i d = mt (a + i)
  | 0, i, _, h => by omega
  | n + 1, 0, a, _ => by simp [mtS]
  | n + 1, i + 1, a, h => by
    have := mtS_getD d n i (a + 1) (by omega)
    simp only [mtS, List.getD_cons_succ, this]
    congr 1
    omega
theorem heldStringS_ev (n : Nat) (hn : n ≤ 2097152) (a : Int) (h0 : 0 ≤ a) (hb : a + n ≤ 4611686018427387904) : Ev (fun k => laws_heldStringS.f k (mtS a n) a) (a + n) := by
  suffices h : ∀ (m i : Nat), i + m = n → Ev (fun k => laws_heldStringS.l0 k (mtS a n) (a + i) (i : Int)) (a + n) by
    simp only [laws_heldStringS.f]
    simpa using h n 0 (by omega)
  intro m
  induction m with
  | zero =>
    intro i hi
    refine Ev.up ?_
    simp only [laws_heldStringS.l0, mtS_length]
    exact Ev.neg (by omega) (Ev.const (by omega))
  | succ m ih =>
    intro i hi
    refine Ev.up ?_
    simp only [laws_heldStringS.l0, mtS_length]
    refine Ev.pos (by omega) (Ev.pos (by omega) (Ev.bind (mt_ev (a + i) (by omega)) (Ev.pos ?_ ?_)))
    · rw [rdOf_str, mtS_getD _ n i a (by omega)]
    · rw [w1 (show i < n by omega) (by unfold maxLen; omega), show wrap64 (a + i + 1) = a + ((i + 1 : Nat) : Int) from by rw [w64 (by omega) (by omega)]; omega]
      exact ih (i + 1) (by omega)
/-- markStringS at a row that it is given to write. -/
theorem markStringS_own (xs : List ByteArray) (hx : xs.length ≤ 2097152) (a : Int) (h0 : 0 ≤ a) (hb : a + xs.length ≤ 4611686018427387904) (v : Value) (ok : Nat → Prop) (w0 w : World) (hB : Below w0.heap.size w0 w) (ho : Kd.R Kd.string 9 w w0.heap.size ok v xs) :
    Calls Try.prog 16 #[v, .int .i64 a] w fun e w' => e = .returned (.int .i64 (a + xs.length)) ∧ Kd.R Kd.string 9 w' w0.heap.size ok v (mtS a xs.length) ∧ Below w0.heap.size w0 w' ∧ Kept w w' ok := by
  obtain ⟨K, hK⟩ := markStringS_ev xs hx a h0 hb
  refine (laws_markStringS.calls K ok v xs a _ _ w0 w hB ho (hK K (Nat.le_refl K))).mono ?_
  rintro e w' ⟨he, hr, hb', hk⟩
  exact ⟨he, Kd.R_reok rfl hr ho.1, hb', hk⟩
/-- markText. -/
theorem markText_own (a : Int) (hb : a ≤ 4611686018427387904) (w : World) : Calls Try.prog 48 #[.int .i64 a] w fun e w' => e = .returned (.string (mt a)) ∧ Below w.heap.size w w' := by
  obtain ⟨K, hK⟩ := mt_ev a hb
  exact laws_markText.calls K a _ w (hK K (Nat.le_refl K))

end Go.Proofs.Ytfidfpmgoaainaa.Px
end
section
namespace Go.Proofs.Ytfidfpmgoaainaa.Px
open Go.RowKit Go.Proofs.YtfidfpmgoaainaaW.PrintWords Go.Proofs.YtfidfpmgoaainaaW.PrintLast Go.Proofs.Ytfidfpmgoaainaa.Pl Go.Proofs.Ytfidfpmgoaainaa.Ext
set_option linter.unusedVariables false
set_option linter.unusedSimpArgs false
structure Sw (S : Nat → Prop) (w w' : World) : Prop where
  kept : Kept w w' S
  num : ∀ a n, w.cell? a = some (.int .i64 n) → ∃ m, w'.cell? a = some (.int .i64 m)
  str : ∀ a s, w.cell? a = some (.string s) → ∃ t, w'.cell? a = some (.string t)
  row : ∀ a A n c, w.cell? a = some (.slice A n c) → w'.cell? a = some (.slice A n c)
  fro : ∀ a : Addr, a.block < w.heap.size → w'.frozen? a = w.frozen? a
  still : Below 0 w w'
theorem Sw.refl (S : Nat → Prop) (w : World) : Sw S w w := ⟨Kept.refl w S, fun _ n h => ⟨n, h⟩, fun _ s h => ⟨s, h⟩, fun _ _ _ _ h => h, fun _ _ => rfl, Below.refl 0 w⟩
theorem Sw.then_ {S : Nat → Prop} {w w1 w2 : World} (h : Sw S w w1) (h2 : Sw S w1 w2) : Sw S w w2 where
  kept := h.kept.then_ h2.kept (fun _ hk => .inl hk)
  num := fun a n hn => by obtain ⟨m, hm⟩ := h.num a n hn; exact h2.num a m hm
  str := fun a n hn => by obtain ⟨m, hm⟩ := h.str a n hn; exact h2.str a m hm
  row := fun a A n c hc => h2.row a A n c (h.row a A n c hc)
  fro := fun a ha => (h2.fro a (Nat.lt_of_lt_of_le ha h.kept.1)).trans (h.fro a ha)
  still := ⟨h2.still.os.trans h.still.os, h2.still.tape.trans h.still.tape, h2.still.output.trans h.still.output, Nat.le_trans h.still.size h2.still.size, fun _ hk => absurd hk (Nat.not_lt_zero _)⟩
theorem Sw.of_below {w w1 : World} (S : Nat → Prop) (hb : Below w.heap.size w w1) : Sw S w w1 where
  kept := Kept.of_below hb S
  num := fun a n hn => ⟨n, pw_cell_below hb hn⟩
  str := fun a n hn => ⟨n, pw_cell_below hb hn⟩
  row := fun a A n c hc => pw_cell_below hb hc
  fro := fun a ha => by simp only [World.frozen?, hb.block a.block ha]
  still := ⟨hb.os, hb.tape, hb.output, hb.size, fun _ hk => absurd hk (Nat.not_lt_zero _)⟩
theorem Sw.below {S : Nat → Prop} {w w1 w2 : World} (h : Sw S w w1) (hb : Below w1.heap.size w1 w2) : Sw S w w2 := h.then_ (Sw.of_below S hb)
theorem Sw.set_num {S : Nat → Prop} {w : World} {p : Addr} {n : Int} (h : w.cell? p = some (.int .i64 n)) (hS : S p.block) (m : Int) : Sw S w (w.setCell p (.int .i64 m)) where
  kept := (Kept.refl w S).setCell (.inl hS) _
  num := fun a k hk => by
    by_cases e : p = a
    · subst e; exact ⟨m, World.cell?_setCell_same _ _ _ h⟩
    · exact ⟨k, (World.cell?_setCell_other _ _ _ _ e).trans hk⟩
  str := fun a k hk => by
    have e : p ≠ a := by rintro rfl; rw [h] at hk; cases hk
    exact ⟨k, (World.cell?_setCell_other _ _ _ _ e).trans hk⟩
  row := fun a A k c hk => by
    have e : p ≠ a := by rintro rfl; rw [h] at hk; cases hk
    exact (World.cell?_setCell_other _ _ _ _ e).trans hk
  fro := fun a _ => World.frozen?_setCell _ _ _ _
  still := (Below.refl 0 w).setCell (Nat.zero_le _) _
theorem Sw.set_str {S : Nat → Prop} {w : World} {p : Addr} {s : ByteArray} (h : w.cell? p = some (.string s)) (hS : S p.block) (t : ByteArray) : Sw S w (w.setCell p (.string t)) where
  kept := (Kept.refl w S).setCell (.inl hS) _
  str := fun a k hk => by
    by_cases e : p = a
    · subst e; exact ⟨t, World.cell?_setCell_same _ _ _ h⟩
    · exact ⟨k, (World.cell?_setCell_other _ _ _ _ e).trans hk⟩
  num := fun a k hk => by
    have e : p ≠ a := by rintro rfl; rw [h] at hk; cases hk
    exact ⟨k, (World.cell?_setCell_other _ _ _ _ e).trans hk⟩
  row := fun a A k c hk => by
    have e : p ≠ a := by rintro rfl; rw [h] at hk; cases hk
    exact (World.cell?_setCell_other _ _ _ _ e).trans hk
  fro := fun a _ => World.frozen?_setCell _ _ _ _
  still := (Below.refl 0 w).setCell (Nat.zero_le _) _
/-- What was laid before the blocks that are written stays. -/
theorem Sw.old {S : Nat → Prop} {w0 w w' : World} (h : Below w0.heap.size w0 w) (hs : Sw S w w') (hS : ∀ k, S k → w0.heap.size ≤ k) : Below w0.heap.size w0 w' :=
  ⟨hs.still.os.trans h.os, hs.still.tape.trans h.tape, hs.still.output.trans h.output, Nat.le_trans h.size hs.kept.1, fun k hk => (hs.kept.2 k (Nat.lt_of_lt_of_le hk h.size) (fun h2 => absurd (hS k h2) (Nat.not_le_of_lt hk))).trans (h.block k hk)⟩
theorem old_kept {S : Nat → Prop} {W w0 w w' : World} {B : Nat} (h : Below w0.heap.size w0 w) (h1 : Below B W w) (h2 : Below B W w') (hk : Kept w w' S) (hS : ∀ k, S k → w0.heap.size ≤ k) : Below w0.heap.size w0 w' :=
  ⟨(h2.os.trans h1.os.symm).trans h.os, (h2.tape.trans h1.tape.symm).trans h.tape, (h2.output.trans h1.output.symm).trans h.output, Nat.le_trans h.size hk.1, fun k hk2 => (hk.2 k (Nat.lt_of_lt_of_le hk2 h.size) (fun h3 => absurd (hS k h3) (Nat.not_le_of_lt hk2))).trans (h.block k hk2)⟩
/-- A number's cell, that may be written; a text's. -/
def NumAt (S : Nat → Prop) (w : World) (g j : Nat) : Prop := S g ∧ (∃ n, w.cell? ⟨g, j, none⟩ = some (.int .i64 n)) ∧ w.frozen? ⟨g, j, none⟩ = false
def StrAt (S : Nat → Prop) (w : World) (g j : Nat) : Prop := S g ∧ (∃ s, w.cell? ⟨g, j, none⟩ = some (.string s)) ∧ w.frozen? ⟨g, j, none⟩ = false
theorem NumAt.step {S S' S0 : Nat → Prop} {w w' : World} {g j : Nat} (hS : ∀ k, S k → S' k) (hw : Sw S0 w w') (h : NumAt S w g j) : NumAt S' w' g j := by
  obtain ⟨h1, ⟨n, h2⟩, h3⟩ := h
  exact ⟨hS _ h1, hw.num _ _ h2, (hw.fro _ (World.block_lt_of_cell? _ _ h2)).trans h3⟩
theorem StrAt.step {S S' S0 : Nat → Prop} {w w' : World} {g j : Nat} (hS : ∀ k, S k → S' k) (hw : Sw S0 w w') (h : StrAt S w g j) : StrAt S' w' g j := by
  obtain ⟨h1, ⟨n, h2⟩, h3⟩ := h
  exact ⟨hS _ h1, hw.str _ _ h2, (hw.fro _ (World.block_lt_of_cell? _ _ h2)).trans h3⟩
def ShL (S : Nat → Prop) (w : World) (A : Option Addr) (n : Nat) : Prop := ∀ i, i < n → ∃ g, A = some ⟨g, 0, none⟩ ∧ StrAt S w g i
theorem ShL.step {S S' S0 : Nat → Prop} {w w' : World} {A : Option Addr} {n : Nat} (hS : ∀ k, S k → S' k) (hw : Sw S0 w w') (h : ShL S w A n) : ShL S' w' A n := by
  intro i hi
  obtain ⟨g, hA, h1⟩ := h i hi
  exact ⟨g, hA, h1.step hS hw⟩
mutual
def ShT (S : Nat → Prop) (w : World) : S33 → Nat → Nat → Prop
  | ⟨_, ls, xs⟩, g, j => NumAt S w g j ∧ (∃ A c, w.cell? ⟨g, j + 1, none⟩ = some (.slice A ls.length c) ∧ ShL S w A ls.length) ∧ (∃ A c, w.cell? ⟨g, j + 2, none⟩ = some (.slice A xs.length c) ∧ ShTS S w xs A 0)
def ShTS (S : Nat → Prop) (w : World) : List S33 → Option Addr → Nat → Prop
  | [], _, _ => True
  | x :: r, A, i => (∃ g, A = some ⟨g, 0, none⟩ ∧ ShT S w x g (i * 3)) ∧ ShTS S w r A (i + 1)
end
mutual
def ShE (S : Nat → Prop) (w : World) : S36 → Nat → Nat → Prop
  | ⟨_, _, _, ⟨_, ls, ts⟩, ms, xs⟩, g, j => NumAt S w g j ∧ StrAt S w g (j + 1) ∧ NumAt S w g (j + 2) ∧ NumAt S w g (j + 3) ∧ (∃ A c, w.cell? ⟨g, j + 4, none⟩ = some (.slice A ls.length c) ∧ ShL S w A ls.length) ∧ (∃ A c, w.cell? ⟨g, j + 5, none⟩ = some (.slice A ts.length c) ∧ ShTS S w ts A 0) ∧ (∃ A c, w.cell? ⟨g, j + 6, none⟩ = some (.slice A ms.length c) ∧ ShL S w A ms.length) ∧ (∃ A c, w.cell? ⟨g, j + 7, none⟩ = some (.slice A xs.length c) ∧ ShES S w xs A 0)
def ShES (S : Nat → Prop) (w : World) : List S36 → Option Addr → Nat → Prop
  | [], _, _ => True
  | x :: r, A, i => (∃ g, A = some ⟨g, 0, none⟩ ∧ ShE S w x g (i * 8)) ∧ ShES S w r A (i + 1)
end
mutual
theorem ShT.step {S S' S0 : Nat → Prop} {w w' : World} (hS : ∀ k, S k → S' k) (hw : Sw S0 w w') : ∀ {x : S33} {g j : Nat}, ShT S w x g j → ShT S' w' x g j
  | ⟨_, ls, xs⟩, g, j, h => by
    rw [ShT] at h ⊢
    obtain ⟨h0, ⟨A1, c1, h1, g1⟩, A2, c2, h2, g2⟩ := h
    exact ⟨h0.step hS hw, ⟨A1, c1, hw.row _ _ _ _ h1, g1.step hS hw⟩, A2, c2, hw.row _ _ _ _ h2, ShTS.step hS hw g2⟩
theorem ShTS.step {S S' S0 : Nat → Prop} {w w' : World} (hS : ∀ k, S k → S' k) (hw : Sw S0 w w') : ∀ {xs : List S33} {A : Option Addr} {i : Nat}, ShTS S w xs A i → ShTS S' w' xs A i
  | [], A, i, h => by rw [ShTS]; trivial
  | x :: r, A, i, h => by
    rw [ShTS] at h ⊢
    obtain ⟨⟨g, hA, h1⟩, h2⟩ := h
    exact ⟨⟨g, hA, ShT.step hS hw h1⟩, ShTS.step hS hw h2⟩
end
mutual
theorem ShE.step {S S' S0 : Nat → Prop} {w w' : World} (hS : ∀ k, S k → S' k) (hw : Sw S0 w w') : ∀ {x : S36} {g j : Nat}, ShE S w x g j → ShE S' w' x g j
  | ⟨_, _, _, ⟨_, ls, ts⟩, ms, xs⟩, g, j, h => by
    rw [ShE] at h ⊢
    obtain ⟨h0, h1, h2, h3, ⟨A4, c4, h4, g4⟩, ⟨A5, c5, h5, g5⟩, ⟨A6, c6, h6, g6⟩, A7, c7, h7, g7⟩ := h
    exact ⟨h0.step hS hw, h1.step hS hw, h2.step hS hw, h3.step hS hw, ⟨A4, c4, hw.row _ _ _ _ h4, g4.step hS hw⟩, ⟨A5, c5, hw.row _ _ _ _ h5, ShTS.step hS hw g5⟩, ⟨A6, c6, hw.row _ _ _ _ h6, g6.step hS hw⟩, A7, c7, hw.row _ _ _ _ h7, ShES.step hS hw g7⟩
theorem ShES.step {S S' S0 : Nat → Prop} {w w' : World} (hS : ∀ k, S k → S' k) (hw : Sw S0 w w') : ∀ {xs : List S36} {A : Option Addr} {i : Nat}, ShES S w xs A i → ShES S' w' xs A i
  | [], A, i, h => by rw [ShES]; trivial
  | x :: r, A, i, h => by
    rw [ShES] at h ⊢
    obtain ⟨⟨g, hA, h1⟩, h2⟩ := h
    exact ⟨⟨g, hA, ShE.step hS hw h1⟩, ShES.step hS hw h2⟩
end
theorem ShTS.at_ {S : Nat → Prop} {w : World} : ∀ {xs : List S33} {A : Option Addr} {i0 : Nat}, ShTS S w xs A i0 → ∀ i, i < xs.length → ∃ g, A = some ⟨g, 0, none⟩ ∧ ShT S w (xs.getD i z33) g ((i0 + i) * 3)
  | [], _, _, _, i, hi => absurd hi (by simp)
  | x :: r, A, i0, h, 0, _ => by rw [ShTS] at h; exact h.1
  | x :: r, A, i0, h, i + 1, hi => by
    rw [ShTS] at h
    have := ShTS.at_ h.2 i (by simpa using hi)
    rw [show i0 + 1 + i = i0 + (i + 1) by omega] at this
    simpa using this
theorem ShES.at_ {S : Nat → Prop} {w : World} : ∀ {xs : List S36} {A : Option Addr} {i0 : Nat}, ShES S w xs A i0 → ∀ i, i < xs.length → ∃ g, A = some ⟨g, 0, none⟩ ∧ ShE S w (xs.getD i z36) g ((i0 + i) * 8)
  | [], _, _, _, i, hi => absurd hi (by simp)
  | x :: r, A, i0, h, 0, _ => by rw [ShES] at h; exact h.1
  | x :: r, A, i0, h, i + 1, hi => by
    rw [ShES] at h
    have := ShES.at_ h.2 i (by simpa using hi)
    rw [show i0 + 1 + i = i0 + (i + 1) by omega] at this
    simpa using this
theorem ShTS.of {S : Nat → Prop} {w : World} {A : Option Addr} : ∀ {xs : List S33} {i0 : Nat}, (∀ i, i < xs.length → ∃ g, A = some ⟨g, 0, none⟩ ∧ ShT S w (xs.getD i z33) g ((i0 + i) * 3)) → ShTS S w xs A i0
  | [], _, _ => by rw [ShTS]; trivial
  | x :: r, i0, h => by
    rw [ShTS]
    refine ⟨by simpa using h 0 (by simp), ShTS.of fun i hi => ?_⟩
    have := h (i + 1) (by simpa using hi)
    rw [show i0 + 1 + i = i0 + (i + 1) by omega]
    simpa using this
theorem ShES.of {S : Nat → Prop} {w : World} {A : Option Addr} : ∀ {xs : List S36} {i0 : Nat}, (∀ i, i < xs.length → ∃ g, A = some ⟨g, 0, none⟩ ∧ ShE S w (xs.getD i z36) g ((i0 + i) * 8)) → ShES S w xs A i0
  | [], _, _ => by rw [ShES]; trivial
  | x :: r, i0, h => by
    rw [ShES]
    refine ⟨by simpa using h 0 (by simp), ShES.of fun i hi => ?_⟩
    have := h (i + 1) (by simpa using hi)
    rw [show i0 + 1 + i = i0 + (i + 1) by omega]
    simpa using this
/-- What a call makes has the form. -/
theorem shL_of {w : World} {base : Nat} {ok : Nat → Prop} {v : Value} {xs : List ByteArray} (h : Kd.R Kd.string 9 w base ok v xs) : ∃ A c, v = .slice A xs.length c ∧ ShL ok w A xs.length := by
  obtain ⟨A, c, rfl⟩ := Kd.R_slice h
  refine ⟨A, c, rfl, fun i hi => ?_⟩
  obtain ⟨g, cap, e, _⟩ := Kd.R_form h (by omega)
  injection e with e1 _ e3
  subst e1
  have h2 := Kd.R_cell (⟨#[]⟩ : ByteArray) h (i : Int) (by omega) (by omega)
  exact ⟨g, rfl, h.1 g rfl, ⟨_, h2.1⟩, h2.2⟩
theorem shT_of : ∀ x : S33, ∀ {w : World} {base : Nat} {ok : Nat → Prop} {g j : Nat} {c : List Value}, k33.M w base ok x c → ok g → (∀ q u, c[q]? = some u → w.cell? ⟨g, j + q, none⟩ = some u) → w.frozen? ⟨g, j, none⟩ = false → ShT ok w x g j := by
  refine indTypeI fun x ih => ?_
  intro w base ok g j c hM hg hc hf
  obtain ⟨v1, v2, rfl, h1, h2⟩ := k33_openM hM
  obtain ⟨A1, c1, rfl, g1⟩ := shL_of h1
  obtain ⟨A2, c2, rfl⟩ := Kd.R_slice h2
  obtain ⟨a, ls, xs⟩ := x
  rw [ShT]
  refine ⟨⟨hg, ⟨_, hc 0 _ rfl⟩, hf⟩, ⟨A1, c1, hc 1 _ rfl, g1⟩, A2, c2, hc 2 _ rfl, ShTS.of fun i hi => ?_⟩
  obtain ⟨g2, cap, e, _⟩ := Kd.R_form h2 (show 0 < xs.length by omega)
  injection e with e1 _ e3
  subst e1
  obtain ⟨c', _, hM', hc', hf'⟩ := Kd.R_elem h2 z33 (i : Int) (by omega) (show (i : Int) < (xs.length : Int) by omega)
  refine ⟨g2, rfl, ?_⟩
  have hm := ih (xs.getD i z33) (mem_getD xs z33 i hi) (g := g2) (j := (0 + i) * 3) (c := c') (ok := ok) (base := base) (k33.M_mono (fun k hk => hk.1) hM') (h2.1 g2 rfl)
  exact hm (fun q u hq => by rw [Nat.zero_add]; exact hc' q u hq) (by rw [Nat.zero_add]; exact hf' 0)
theorem shTS_of {w : World} {base : Nat} {ok : Nat → Prop} {v : Value} {xs : List S33} (h2 : Kd.R k33 33 w base ok v xs) : ∃ A c, v = .slice A xs.length c ∧ ShTS ok w xs A 0 := by
  obtain ⟨A2, c2, rfl⟩ := Kd.R_slice h2
  refine ⟨A2, c2, rfl, ShTS.of fun i hi => ?_⟩
  obtain ⟨g2, cap, e, _⟩ := Kd.R_form h2 (show 0 < xs.length by omega)
  injection e with e1 _ e3
  subst e1
  obtain ⟨c', _, hM', hc', hf'⟩ := Kd.R_elem h2 z33 (i : Int) (by omega) (show (i : Int) < (xs.length : Int) by omega)
  exact ⟨g2, rfl, shT_of _ (k33.M_mono (fun k hk => hk.1) hM') (h2.1 g2 rfl) (fun q u hq => by rw [Nat.zero_add]; exact hc' q u hq) (by rw [Nat.zero_add]; exact hf' 0)⟩
theorem shE_of : ∀ x : S36, ∀ {w : World} {base : Nat} {ok : Nat → Prop} {g j : Nat} {c : List Value}, k36.M w base ok x c → ok g → (∀ q u, c[q]? = some u → w.cell? ⟨g, j + q, none⟩ = some u) → (∀ q, w.frozen? ⟨g, j + q, none⟩ = false) → ShE ok w x g j := by
  refine indTermI fun x ih => ?_
  intro w base ok g j c hM hg hc hf
  obtain ⟨v4, v5, v6, v7, rfl, h4, h5, h6, h7⟩ := k36_openM hM
  obtain ⟨A4, c4, rfl, g4⟩ := shL_of h4
  obtain ⟨A5, c5, rfl, g5⟩ := shTS_of h5
  obtain ⟨A6, c6, rfl, g6⟩ := shL_of h6
  obtain ⟨A7, c7, rfl⟩ := Kd.R_slice h7
  obtain ⟨a, nm, n, ⟨b, ls, ts⟩, ms, xs⟩ := x
  rw [ShE]
  refine ⟨⟨hg, ⟨_, hc 0 _ rfl⟩, hf 0⟩, ⟨hg, ⟨_, hc 1 _ rfl⟩, hf 1⟩, ⟨hg, ⟨_, hc 2 _ rfl⟩, hf 2⟩, ⟨hg, ⟨_, hc 3 _ rfl⟩, hf 3⟩, ⟨A4, c4, hc 4 _ rfl, g4⟩, ⟨A5, c5, hc 5 _ rfl, g5⟩, ⟨A6, c6, hc 6 _ rfl, g6⟩, A7, c7, hc 7 _ rfl, ShES.of fun i hi => ?_⟩
  obtain ⟨g2, cap, e, _⟩ := Kd.R_form h7 (show 0 < xs.length by omega)
  injection e with e1 _ e3
  subst e1
  obtain ⟨c', _, hM', hc', hf'⟩ := Kd.R_elem h7 z36 (i : Int) (by omega) (show (i : Int) < (xs.length : Int) by omega)
  refine ⟨g2, rfl, ?_⟩
  have hm := ih (xs.getD i z36) (mem_getD xs z36 i hi) (g := g2) (j := (0 + i) * 8) (c := c') (ok := ok) (base := base) (k36.M_mono (fun k hk => hk.1) hM') (h7.1 g2 rfl)
  exact hm (fun q u hq => by rw [Nat.zero_add]; exact hc' q u hq) (fun q => by rw [Nat.zero_add]; exact hf' q)
theorem shES_of {w : World} {base : Nat} {ok : Nat → Prop} {v : Value} {xs : List S36} (h7 : Kd.R k36 36 w base ok v xs) : ∃ A c, v = .slice A xs.length c ∧ ShES ok w xs A 0 := by
  obtain ⟨A2, c2, rfl⟩ := Kd.R_slice h7
  refine ⟨A2, c2, rfl, ShES.of fun i hi => ?_⟩
  obtain ⟨g2, cap, e, _⟩ := Kd.R_form h7 (show 0 < xs.length by omega)
  injection e with e1 _ e3
  subst e1
  obtain ⟨c', _, hM', hc', hf'⟩ := Kd.R_elem h7 z36 (i : Int) (by omega) (show (i : Int) < (xs.length : Int) by omega)
  exact ⟨g2, rfl, shE_of _ (k36.M_mono (fun k hk => hk.1) hM') (h7.1 g2 rfl) (fun q u hq => by rw [Nat.zero_add]; exact hc' q u hq) (fun q => by rw [Nat.zero_add]; exact hf' q)⟩
theorem shL_at {w : World} {base n c : Nat} {ok : Nat → Prop} {A : Option Addr} {xs : List ByteArray} (h : Kd.R Kd.string 9 w base ok (.slice A n c) xs) : ShL (fun k => base ≤ k ∧ k < w.heap.size) w A xs.length := by
  obtain ⟨A1, c1, e, g⟩ := shL_of (Kd.R_bound h)
  injection e with e1
  subst e1
  exact g.step (fun k hk => ⟨hk.2.1, hk.2.2.1⟩) (Sw.refl (fun _ => True) w)
theorem shTS_at {w : World} {base n c : Nat} {ok : Nat → Prop} {A : Option Addr} {xs : List S33} (h : Kd.R k33 33 w base ok (.slice A n c) xs) : ShTS (fun k => base ≤ k ∧ k < w.heap.size) w xs A 0 := by
  obtain ⟨A1, c1, e, g⟩ := shTS_of (Kd.R_bound h)
  injection e with e1
  subst e1
  exact ShTS.step (fun k hk => ⟨hk.2.1, hk.2.2.1⟩) (Sw.refl (fun _ => True) w) g
theorem shES_at {w : World} {base n c : Nat} {ok : Nat → Prop} {A : Option Addr} {xs : List S36} (h : Kd.R k36 36 w base ok (.slice A n c) xs) : ShES (fun k => base ≤ k ∧ k < w.heap.size) w xs A 0 := by
  obtain ⟨A1, c1, e, g⟩ := shES_of (Kd.R_bound h)
  injection e with e1
  subst e1
  exact ShES.step (fun k hk => ⟨hk.2.1, hk.2.2.1⟩) (Sw.refl (fun _ => True) w) g

end Go.Proofs.Ytfidfpmgoaainaa.Px
end
section
namespace Go.Proofs.Ytfidfpmgoaainaa.Px
open Go.RowKit Go.Proofs.YtfidfpmgoaainaaW.PrintWords Go.Proofs.YtfidfpmgoaainaaW.PrintLast Go.Proofs.Ytfidfpmgoaainaa.Pl Go.Proofs.Ytfidfpmgoaainaa.Ext
set_option linter.unusedVariables false
set_option linter.unusedSimpArgs false
mutual
def cnType : S33 → Nat
  | ⟨_, x1, x2⟩ => 1 + x1.length + cnTypeS x2
def cnTypeS : List S33 → Nat
  | [] => 0
  | x :: r => cnType x + cnTypeS r
end
mutual
def cnTerm : S36 → Nat
  | ⟨_, _, _, ⟨_, ls, ts⟩, ms, xs⟩ => 4 + ls.length + cnTypeS ts + ms.length + cnTermS xs
def cnTermS : List S36 → Nat
  | [] => 0
  | x :: r => cnTerm x + cnTermS r
end
theorem cnTypeS_append : ∀ xs ys : List S33, cnTypeS (xs ++ ys) = cnTypeS xs + cnTypeS ys
  | [], ys => by simp [cnTypeS]
  | x :: r, ys => by simp only [List.cons_append, cnTypeS, cnTypeS_append r ys]; omega
theorem cnTypeS_take (xs : List S33) (i : Nat) (h : i < xs.length) : cnTypeS (xs.take (i + 1)) = cnTypeS (xs.take i) + cnType (xs.getD i z33) := by
  rw [List.take_succ_eq_append_getElem h, cnTypeS_append]
  simp [cnTypeS, List.getD_eq_getElem?_getD, h]
theorem cnTypeS_take_le (xs : List S33) (i : Nat) : cnTypeS (xs.take i) ≤ cnTypeS xs := by
  have := cnTypeS_append (xs.take i) (xs.drop i)
  rw [List.take_append_drop] at this
  omega
theorem cnTermS_append : ∀ xs ys : List S36, cnTermS (xs ++ ys) = cnTermS xs + cnTermS ys
  | [], ys => by simp [cnTermS]
  | x :: r, ys => by simp only [List.cons_append, cnTermS, cnTermS_append r ys]; omega
theorem cnTermS_take (xs : List S36) (i : Nat) (h : i < xs.length) : cnTermS (xs.take (i + 1)) = cnTermS (xs.take i) + cnTerm (xs.getD i z36) := by
  rw [List.take_succ_eq_append_getElem h, cnTermS_append]
  simp [cnTermS, List.getD_eq_getElem?_getD, h]
theorem cnTermS_take_le (xs : List S36) (i : Nat) : cnTermS (xs.take i) ≤ cnTermS xs := by
  have := cnTermS_append (xs.take i) (xs.drop i)
  rw [List.take_append_drop] at this
  omega
/-- markStringS. -/
def GoL (n : Nat) : Prop := ∀ (a : Int) (A : Option Addr) (c : Nat) (S : Nat → Prop) (w : World), 0 ≤ a → a + n ≤ 4611686018427387000 → ShL S w A n →
    Calls Try.prog 16 #[.slice A n c, .int .i64 a] w fun e w' => e = .returned (.int .i64 (a + n)) ∧ Sw S w w'
set_option maxHeartbeats 8000000 in
set_option maxRecDepth 100000 in
theorem goL (n : Nat) (hn : n ≤ 1048576) : GoL n := by
  intro a A c S w h0 hb hsh
  have HSH := Aside0.mk hsh
  have HA := Aside0.mk (And.intro h0 (And.intro hb hn))
  clear hsh h0 hb hn
  go_enter Try.func16, Try.ntmps16
  go_wp2
  go_loopg [1, 5] n (fun kq v1 v5 w' => ∃ (b i : Int), v1 = .int .i64 b ∧ v5 = .int .i64 i ∧ Aside0 (0 ≤ i ∧ i + kq = n ∧ b = a + i) ∧ Aside0 (Sw S w w'))
  case atStart => exact ⟨a, 0, rfl, rfl, ⟨by omega, by omega, by omega⟩, ⟨Sw.refl S w⟩⟩
  case round =>
    obtain ⟨b, i, rfl, rfl, HI, HW⟩ := hrel
    by_cases hlt : i < (n : Int)
    · have hd : decide (i < (n : Int)) = true := decide_eq_true hlt
      have hi0 : (0 ≤ i) = True := eq_true HI.out.1
      have hi1 : (i < (n : Int)) = True := eq_true hlt
      have HLT := Aside0.mk hlt
      obtain ⟨g, eA, h1⟩ := HSH.out i.toNat (by have := HI.out.1; omega)
      subst eA
      have HX := Aside0.mk h1
      clear h1 hlt
      go_wp2_with (first
        | ((with_reducible refine gate_callee (f := 48) rfl ?_)
           refine goesL_ (some 15) rfl rfl Try.func48 (by kernel_rfl) rfl #[.int .i64 b] rfl (by (try simp only [List.map_toArray, List.map_cons, List.map_nil]); first | done | rfl) ?_
           (with_reducible refine (markText_own b (by have := HI.out; have := HA.out; have := HLT.out; omega) _).mono ?_)
           rintro e w2 ⟨rfl, hb⟩
           refine ⟨_, rfl, ?_⟩
           have HW2 := Aside0.mk (HW.out.below hb)
           clear HW hb
           have HX2 := Aside0.mk (HX.out.step (S' := S) (fun _ h => h) HW2.out)
           obtain ⟨s0, hs0⟩ := HX2.out.2.1
           have hx : w2.cell? ⟨g, i.toNat, none⟩ = some (.string s0) := hs0
           have hf : w2.frozen? ⟨g, i.toNat, none⟩ = false := HX2.out.2.2
           have HS0 := Aside0.mk hs0
           clear hs0)
        | ((with_reducible refine gate_store (t := 9) (p := 16) rfl ?_)
           refine store_event (t := 9) (p := 16) (v := ?vo_w3) (w1 := (w2.setCell ⟨g, i.toNat, none⟩ (.string (mt b)))) ?hg ?ho ?hn ?hr ?_; (case ho => rfl); (case hg => rfl); (case hn => rfl); (case hr => first | (go_simp; done) | (go_simp; rfl)); intro w3 hw
           have HW3 := Aside0.mk (show Sw S w w3 by rw [hw]; exact HW2.out.then_ (Sw.set_str HS0.out HX2.out.1 _))
           clear hw hx hf HW2 HX2 HS0))
      obtain ⟨k1, rfl⟩ : ∃ m, gk = m + 1 := ⟨gk - 1, by have := HI.out; have := HLT.out; omega⟩
      go_roundg k1
      case measure => omega
      case rel =>
        have hw1 : wrap64 (i + 1) = i + 1 := by have := HI.out; have := HLT.out; have := HA.out; unfold wrap64; omega
        have hw2 : wrap64 (b + 1) = b + 1 := by have := HI.out; have := HLT.out; have := HA.out; unfold wrap64; omega
        exact ⟨wrap64 (b + 1), wrap64 (i + 1), rfl, rfl, ⟨by have := HI.out; omega, by have := HI.out; omega, by have := HI.out; omega⟩, HW3⟩
    · have hd : decide (i < (n : Int)) = false := decide_eq_false hlt
      have HT := Aside0.mk (show b = a + n by have := HI.out; omega)
      clear hlt
      go_wp2
      go_ret
      exact ⟨by rw [← HT.out]; rfl, HW.out⟩
theorem GoL.go {n : Nat} (h : GoL n) (a : Int) (A : Option Addr) (c : Nat) (S : Nat → Prop) (w : World) (h0 : 0 ≤ a) (h1 : a + n ≤ 4611686018427387000) (h2 : ShL S w A n) :
    Calls Try.prog 16 #[.slice A n c, .int .i64 a] w fun e w' => e = .returned (.int .i64 (a + n)) ∧ Sw S w w' := h a A c S w h0 h1 h2
/-- markTypeS. -/
def GoTS (xs : List S33) : Prop := ∀ (a : Int) (A : Option Addr) (c : Nat) (S : Nat → Prop) (w : World), 0 ≤ a → a + cnTypeS xs ≤ 4611686018427387000 → ShTS S w xs A 0 →
    Calls Try.prog 73 #[.slice A xs.length c, .int .i64 a] w fun e w' => e = .returned (.int .i64 (a + cnTypeS xs)) ∧ Sw S w w'
theorem GoTS.go {xs : List S33} (h : GoTS xs) (a : Int) (A : Option Addr) (c : Nat) (S : Nat → Prop) (w : World) (h0 : 0 ≤ a) (h1 : a + cnTypeS xs ≤ 4611686018427387000) (h2 : ShTS S w xs A 0) :
    Calls Try.prog 73 #[.slice A xs.length c, .int .i64 a] w fun e w' => e = .returned (.int .i64 (a + cnTypeS xs)) ∧ Sw S w w' := h a A c S w h0 h1 h2
theorem shT_open {S : Nat → Prop} {w : World} {x : S33} {g j : Nat} (h : ShT S w x g j) : NumAt S w g j ∧ (∃ A c, w.cell? ⟨g, j + 1, none⟩ = some (.slice A x.f1.length c) ∧ ShL S w A x.f1.length) ∧ (∃ A c, w.cell? ⟨g, j + 2, none⟩ = some (.slice A x.f2.length c) ∧ ShTS S w x.f2 A 0) := by
  obtain ⟨a, ls, xs⟩ := x
  rw [ShT] at h
  exact h
theorem cnType_eq (x : S33) : cnType x = 1 + x.f1.length + cnTypeS x.f2 := by cases x; simp only [cnType]
theorem cnTerm_eq (x : S36) : cnTerm x = 4 + x.f3.f1.length + cnTypeS x.f3.f2 + x.f4.length + cnTermS x.f5 := by obtain ⟨_, _, _, ⟨_, _, _⟩, _, _⟩ := x; simp only [cnTerm]
set_option maxHeartbeats 8000000 in
set_option maxRecDepth 100000 in
theorem goTS_step (xs : List S33) (hn : xs.length ≤ 1048576) (hx : ∀ y ∈ xs, y.f1.length ≤ 1048576 ∧ GoTS y.f2) : GoTS xs := by
  intro a A c S w h0 hb hsh
  have HSH := Aside0.mk hsh
  have HX := Aside0.mk hx
  have HA := Aside0.mk (And.intro h0 (And.intro hb hn))
  clear hsh h0 hb hn hx
  go_enter Try.func73, Try.ntmps73
  go_wp2
  go_loopg [1, 5] xs.length (fun kq v1 v5 w' => ∃ (b i : Int), v1 = .int .i64 b ∧ v5 = .int .i64 i ∧ Aside0 (0 ≤ i ∧ i + kq = xs.length ∧ b = a + cnTypeS (xs.take i.toNat)) ∧ Aside0 (Sw S w w'))
  case atStart => exact ⟨a, 0, rfl, rfl, ⟨by omega, by omega, by simp [cnTypeS]⟩, ⟨Sw.refl S w⟩⟩
  case round =>
    obtain ⟨b, i, rfl, rfl, HI, HW⟩ := hrel
    by_cases hlt : i < (xs.length : Int)
    · have hd : decide (i < (xs.length : Int)) = true := decide_eq_true hlt
      have hi0 : (0 ≤ i) = True := eq_true HI.out.1
      have hi1 : (i < (xs.length : Int)) = True := eq_true hlt
      have HLT := Aside0.mk (show i.toNat < xs.length by have := HI.out.1; omega)
      obtain ⟨g, eA, h1⟩ := HSH.out.at_ i.toNat HLT.out
      subst eA
      rw [Nat.zero_add] at h1
      generalize hxe : xs.getD i.toNat z33 = x at h1
      have HXL := Aside0.mk (HX.out x (by rw [← hxe]; exact mem_getD xs z33 _ HLT.out))
      have HE := Aside0.mk (show b + cnType x ≤ a + cnTypeS xs ∧ b = a + cnTypeS (xs.take i.toNat) ∧ 0 ≤ b ∧ 0 ≤ a ∧ a + cnTypeS xs ≤ 4611686018427387000 ∧ cnTypeS (xs.take (i.toNat + 1)) = cnTypeS (xs.take i.toNat) + cnType x by
        have e1 := cnTypeS_take xs i.toNat HLT.out
        have e2 := cnTypeS_take_le xs (i.toNat + 1)
        rw [hxe] at e1
        have := HI.out; have := HA.out
        refine ⟨by omega, by omega, by omega, by omega, by omega, e1⟩)
      have HW1 := Aside0.mk (show wrap64 (b + 1) = b + 1 by have := HE.out; have := cnType_eq x; unfold wrap64; omega)
      obtain ⟨hk0, ⟨A1, c1, hk1, g1⟩, A2, c2, hk2, g2⟩ := shT_open h1
      have G0 := Aside0.mk hk0; have K1 := Aside0.mk hk1; have G1 := Aside0.mk g1; have K2 := Aside0.mk hk2; have G2 := Aside0.mk g2
      have P0 := Aside0.mk (G0.out.step (S' := S) (fun _ h => h) HW.out)
      obtain ⟨n0, hn0⟩ := P0.out.2.1
      have hx : wr.cell? ⟨g, i.toNat * 3, none⟩ = some (.int .i64 n0) := hn0
      have hf : wr.frozen? ⟨g, i.toNat * 3, none⟩ = false := P0.out.2.2
      have HN0 := Aside0.mk hn0
      clear h1 hk0 hk1 g1 hk2 g2 hn0 hxe hlt
      go_wp2_with (first
        | ((with_reducible refine gate_store (t := 3) (p := 16) rfl ?_)
           refine store_event (t := 3) (p := 16) (v := ?vo_w3) (w1 := (wr.setCell ⟨g, i.toNat * 3, none⟩ (.int .i64 b))) ?hg ?ho ?hn ?hr ?_; (case ho => rfl); (case hg => rfl); (case hn => rfl); (case hr => first | (go_simp; done) | (go_simp; rfl)); intro w3 hw
           have HW3 := Aside0.mk (show Sw S w w3 by rw [hw]; exact HW.out.then_ (Sw.set_num HN0.out P0.out.1 _))
           clear hw hx hf HW P0 HN0
           have hx : w3.cell? ⟨g, i.toNat * 3 + 1, none⟩ = some (.slice A1 x.f1.length c1) := HW3.out.row _ _ _ _ K1.out)
        | ((with_reducible refine gate_callee (f := 16) rfl ?_)
           refine goesL_ (some 25) rfl rfl Try.func16 (by kernel_rfl) rfl #[.slice A1 x.f1.length c1, .int .i64 (wrap64 (b + 1))] rfl (by (try simp only [List.map_toArray, List.map_cons, List.map_nil]); first | done | rfl) ?_
           (with_reducible refine (GoL.go (goL x.f1.length HXL.out.1) (wrap64 (b + 1)) A1 c1 S _ (by rw [HW1.out]; have := HE.out; omega) (by rw [HW1.out]; have := HE.out; have := cnType_eq x; omega) (G1.out.step (fun _ h => h) HW3.out)).mono ?_)
           rintro e w4 ⟨rfl, hb⟩
           refine ⟨_, rfl, ?_⟩
           have HW4 := Aside0.mk (HW3.out.then_ hb)
           clear hb hx HW3
           have hx : w4.cell? ⟨g, i.toNat * 3 + 2, none⟩ = some (.slice A2 x.f2.length c2) := HW4.out.row _ _ _ _ K2.out)
        | ((with_reducible refine gate_callee (f := 73) rfl ?_)
           refine goesL_ (some 32) rfl rfl Try.func73 (by kernel_rfl) rfl #[.slice A2 x.f2.length c2, .int .i64 (wrap64 (b + 1) + (x.f1.length : Nat))] rfl (by (try simp only [List.map_toArray, List.map_cons, List.map_nil]); first | done | rfl) ?_
           (with_reducible refine (GoTS.go HXL.out.2 (wrap64 (b + 1) + (x.f1.length : Nat)) A2 c2 S _ (by rw [HW1.out]; have := HE.out; omega) (by rw [HW1.out]; have := HE.out; have := cnType_eq x; omega) (G2.out.step (fun _ h => h) HW4.out)).mono ?_)
           rintro e w5 ⟨rfl, hb⟩
           refine ⟨_, rfl, ?_⟩
           have HW5 := Aside0.mk (HW4.out.then_ hb)
           clear hb hx HW4))
      obtain ⟨k1, rfl⟩ : ∃ m, gk = m + 1 := ⟨gk - 1, by have := HI.out; have := HLT.out; omega⟩
      go_roundg k1
      case measure => omega
      case rel =>
        have hz : i.toNat + 1 = (wrap64 (i + 1)).toNat := by have := HI.out; have := HLT.out; have := HA.out; unfold wrap64; omega
        have hw1 : wrap64 (i + 1) = i + 1 := by have := HI.out; have := HLT.out; have := HA.out; unfold wrap64; omega
        refine ⟨wrap64 (b + 1) + (x.f1.length : Nat) + (cnTypeS x.f2 : Nat), wrap64 (i + 1), rfl, rfl, ⟨by have := HI.out; omega, by have := HI.out; have := HLT.out; omega, ?_⟩, HW5⟩
        rw [← hz, HE.out.2.2.2.2.2, cnType_eq]; (try simp only [HW1.out]); have := HE.out; omega
    · have hd : decide (i < (xs.length : Int)) = false := decide_eq_false hlt
      have HT := Aside0.mk (show i.toNat = xs.length by have := HI.out; omega)
      clear hlt
      go_wp2
      go_ret
      refine ⟨?_, HW.out⟩
      rw [HI.out.2.2, HT.out, List.take_of_length_le (Nat.le_refl _)]
      rfl

end Go.Proofs.Ytfidfpmgoaainaa.Px
end
