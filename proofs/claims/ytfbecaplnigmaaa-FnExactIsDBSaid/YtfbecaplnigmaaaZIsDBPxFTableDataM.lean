/- The family TableData of mirrored types: the weight of a value, its copy, and what the laws' own helpers come to. No condition. -/
import Derived.Test.YtfbecaplnigmaaaZIsDBPx12
import Derived.Test.YtfbecaplnigmaaaZIsDBPx0M
import Derived.Test.YtfbecaplnigmaaaZIsDBPx24M
import Derived.Test.YtfbecaplnigmaaaZIsDBPx26M
import Derived.Test.YtfbecaplnigmaaaZIsDBPx11
import Derived.Test.YtfbecaplnigmaaaZIsDBPx22M
import Derived.Test.YtfbecaplnigmaaaZIsDBPx18
import Derived.Test.YtfbecaplnigmaaaZIsDBPx6M
import Derived.Test.YtfbecaplnigmaaaZIsDBWLastM
import Derived.Test.YtfbecaplnigmaaaZIsDBPx13M
import Derived.Test.YtfbecaplnigmaaaZIsDBPx3M
import Derived.Test.YtfbecaplnigmaaaZIsDBPx16
section
namespace Go.Proofs.Ytfbecaplnigmaaa.Px
open Go.RowKit Go.Proofs.YtfbecaplnigmaaaW.PrintWords Go.Proofs.Ytfbecaplnigmaaa.Pl
set_option linter.unusedVariables false
set_option linter.unusedSimpArgs false
def wtTableData : S73 → Nat
  | ⟨x0, x1⟩ => x0.size + (x1.length + wtValueS x1)
def wtTableDataS : List S73 → Nat
  | [] => 0
  | x :: r => wtTableData x + wtTableDataS r
def cvTableData : S73 → S47
  | ⟨x0, x1⟩ => ⟨x0, (cvValueS x1)⟩
def cvTableDataS : List S73 → List S47
  | [] => []
  | x :: r => cvTableData x :: cvTableDataS r
theorem wtTableDataS_sum (xs : List S73) : wtTableDataS xs = (xs.map wtTableData).sum := by
  induction xs with
  | nil => rfl
  | cons x r ih => simp [wtTableDataS, ih]
theorem cvTableDataS_map (xs : List S73) : cvTableDataS xs = xs.map cvTableData := by
  induction xs with
  | nil => rfl
  | cons x r ih => simp [cvTableDataS, ih]
theorem wtTableData_eq (x : S73) : wtTableData x = x.f0.size + (x.f1.length + wtValueS x.f1) := by cases x; simp only [wtTableData]
theorem cvTableData_eq (x : S73) : cvTableData x = ⟨x.f0, (cvValueS x.f1)⟩ := by cases x; simp only [cvTableData]
def SmTableData (x : S47) : Prop := (x.f0.size ≤ 1048576) ∧ ((x.f1.length ≤ 1048576 ∧ ∀ y ∈ x.f1, SmValue y))
theorem SmTableData.p0 {x : S47} (h : SmTableData x) : x.f0.size ≤ 1048576 := h.1
theorem SmTableData.p1 {x : S47} (h : SmTableData x) : (x.f1.length ≤ 1048576 ∧ ∀ y ∈ x.f1, SmValue y) := h.2
theorem etaTableData (x : S47) : (⟨x.f0, x.f1⟩ : S47) = x := by obtain ⟨_, _⟩ := x; rfl
theorem smTableData_of (x : S73) (hw : W73 x) (hw2 : wtTableData x ≤ 1048576) : SmTableData (cvTableData x) := by
  have hb := hw2
  rw [wtTableData_eq] at hb
  rw [cvTableData_eq]
  exact ⟨by (try dsimp only); omega, ⟨by (try dsimp only); rw [cvValueS_map, List.length_map]; omega, fun z hz => by
      (try dsimp only at hz)
      rw [cvValueS_map] at hz
      obtain ⟨y, hy, rfl⟩ := List.mem_map.1 hz
      exact smValue_of y (hw.2.2 y hy) (by have := sum_le_of_mem wtValue hy; rw [← wtValueS_sum] at this; omega)⟩⟩
theorem szTableDataS_of (xs : List S73) (hx : xs.length ≤ maxLen) (h : ∀ y ∈ xs, ∀ left : Int, 0 ≤ left → left ≤ 1048576 → Ev (fun k => laws_szTableData.f k (y.f0) (y.f1) left) (cut (wtTableData y) left)) (left : Int) (h0 : 0 ≤ left) (hl : left ≤ 1048576) : Ev (fun k => laws_szTableDataS.f k xs left) (cut (xs.length + wtTableDataS xs) left) := by
  simp only [laws_szTableDataS.f]
  have hs := cut_sub (n := xs.length) h0 hl hx
  by_cases hc : cut xs.length left < 0
  · exact Ev.pos (hs.1.2 hc) (Ev.const (cut_add' hc).symm)
  · refine Ev.neg (fun h => hc (hs.1.1 h)) ?_
    rw [hs.2 (by omega)]
    have hl2 := cut_le (n := xs.length) h0
    have hw := sz_loop xs.length (fun k i left => laws_szTableData.f k ((rd_T73 xs (i : Int)).f0) ((rd_T73 xs (i : Int)).f1) left) (fun k left i => laws_szTableDataS.l0 k xs left (i : Int)) (fun i => wtTableData (xs.getD i z73)) (fun k left i hi => by
      simp only [laws_szTableDataS.l0]
      rw [if_pos (by omega), if_pos (by omega), w1 hi hx]) (fun k left => by simp only [laws_szTableDataS.l0]; rw [if_neg (by omega)]) (fun i left hi h0 hl => h _ (mem_getD xs z73 i hi) left h0 hl) xs.length 0 _ (by omega) (show 0 ≤ cut xs.length left by omega) (by omega)
    refine Ev.eq hw ?_
    rw [cut_add (by omega), sumF_list wtTableData z73 xs xs.length 0 (by omega), wtTableDataS_sum]
    rfl
theorem szTableData_ev : ∀ x : S73, W73 x → ∀ left : Int, 0 ≤ left → left ≤ 1048576 → Ev (fun k => laws_szTableData.f k (x.f0) (x.f1) left) (cut (wtTableData x) left) := by
  intro x hw left h0 hl
  simp only [laws_szTableData.f]
  rw [wtTableData_eq]
  have hb0 : (0 : Int) ≤ left ∧ left ≤ 1048576 := ⟨h0, hl⟩
  have hs0 := cut_sub (n := x.f0.size) hb0.1 hb0.2 (hw.1)
  by_cases hc0 : cut (x.f0.size) left < 0
  · refine Ev.pos (hs0.1.2 hc0) (Ev.const ?_)
    have hn : cut (x.f0.size) left < 0 := hc0
    have hn : cut (x.f0.size + (x.f1.length + wtValueS x.f1)) left < 0 := by rw [cut_add' hn]; omega
    have hv := cut_neg.1 hn; unfold cut; rw [if_neg hv]
  refine Ev.neg (fun h => hc0 (hs0.1.1 h)) ?_
  rw [hs0.2 (by omega)]
  have hb1 : (0 : Int) ≤ cut (x.f0.size) left ∧ cut (x.f0.size) left ≤ 1048576 := ⟨by omega, by have := cut_le (n := x.f0.size) h0; omega⟩
  refine Ev.bind (szValueS_of x.f1 hw.2.1 (fun y hy => szValue_ev y (hw.2.2 y hy)) _ hb1.1 hb1.2) ?_
  by_cases hc1 : cut ((x.f1.length + wtValueS x.f1)) (cut (x.f0.size) left) < 0
  · refine Ev.pos hc1 (Ev.const ?_)
    have hn : cut (x.f0.size + (x.f1.length + wtValueS x.f1)) left < 0 := by rw [← cut_add (by omega)]; exact hc1
    have hv := cut_neg.1 hn; unfold cut; rw [if_neg hv]
  refine Ev.neg hc1 ?_
  rw [cut_add (by omega)] at hc1 ⊢
  have hb2 : (0 : Int) ≤ cut (x.f0.size + (x.f1.length + wtValueS x.f1)) left ∧ cut (x.f0.size + (x.f1.length + wtValueS x.f1)) left ≤ 1048576 := ⟨by omega, by have := cut_le (n := x.f0.size + (x.f1.length + wtValueS x.f1)) h0; omega⟩
  exact Ev.const rfl
theorem toTableDataS_of (xs : List S73) (hx : xs.length ≤ 1048576) (h : ∀ y ∈ xs, Ev (fun k => laws_toTableData.f k (y.f0) (y.f1)) ((cvTableData y).f0, (cvTableData y).f1)) : Ev (fun k => laws_toTableDataS.f k xs) (cvTableDataS xs) := by
  simp only [laws_toTableDataS.f]
  refine Ev.pos (by omega) (Ev.pos (by omega) ?_)
  have hw := to_loop xs.length (fun k i => (laws_toTableData.f k ((rd_T73 xs (i : Int)).f0) ((rd_T73 xs (i : Int)).f1)).map fun t => (⟨t.1, t.2⟩ : S47)) (fun k out i => laws_toTableDataS.l0 k xs out (i : Int)) (fun i => cvTableData (xs.getD i z73)) (fun k out i hi hl => by
    simp only [laws_toTableDataS.l0]
    rw [if_pos (by omega), if_pos (by omega)]
    rcases laws_toTableData.f k ((rd_T73 xs (i : Int)).f0) ((rd_T73 xs (i : Int)).f1) with _ | t
    · rfl
    · simp only [Option.map_some, Option.bind_some]
      rw [if_pos (by omega), w1' hi hx]
      rfl) (fun k out => by simp only [laws_toTableDataS.l0]; rw [if_neg (by omega)]) (fun i hi => Ev.eq (Ev.map (fun t => (⟨t.1, t.2⟩ : S47)) (h _ (mem_getD xs z73 i hi))) (etaTableData _)) xs.length 0 (List.replicate ((xs.length : Int)).toNat z47) (by omega) (by simp)
  refine Ev.eq hw ?_
  rw [List.take_zero, List.nil_append, range_map_getElem cvTableData z73 xs, cvTableDataS_map]
theorem toTableData_ev : ∀ x : S73, wtTableData x ≤ 1048576 → Ev (fun k => laws_toTableData.f k (x.f0) (x.f1)) ((cvTableData x).f0, (cvTableData x).f1) := by
  intro x hw2
  simp only [laws_toTableData.f]
  have hb := hw2
  rw [wtTableData_eq] at hb
  refine Ev.bind (toValueS_of x.f1 (by omega) (fun y hy => toValue_ev y (by have := sum_le_of_mem wtValue hy; rw [← wtValueS_sum] at this; omega))) ?_
  exact Ev.const (by rw [cvTableData_eq])
theorem eqTableDataS_of (xs : List S47) (hx : xs.length ≤ 1048576) (h : ∀ y ∈ xs, Ev (fun k => laws_eqTableData.f k (y.f0) (y.f1) (y.f0) (y.f1)) true) : Ev (fun k => laws_eqTableDataS.f k xs xs) true := by
  simp only [laws_eqTableDataS.f]
  refine Ev.pos (by simp) ?_
  exact eq_loop xs.length (fun k i => laws_eqTableData.f k ((rd_T47 xs (i : Int)).f0) ((rd_T47 xs (i : Int)).f1) ((rd_T47 xs (i : Int)).f0) ((rd_T47 xs (i : Int)).f1)) (fun k i => laws_eqTableDataS.l0 k xs xs (i : Int)) (fun k i hi => by
    simp only [laws_eqTableDataS.l0]
    rw [if_pos (by omega), if_pos (by omega), if_pos (by omega), w1' hi hx]) (fun k => by simp only [laws_eqTableDataS.l0]; rw [if_neg (by omega)]) (fun i hi => h _ (mem_getD xs z47 i hi)) xs.length 0 (by omega)
theorem eqTableData_ev : ∀ x : S47, SmTableData x → Ev (fun k => laws_eqTableData.f k (x.f0) (x.f1) (x.f0) (x.f1)) true := by
  intro x hs
  simp only [laws_eqTableData.f]
  refine Ev.pos (by simp) ?_
  refine Ev.bind (eqValueS_of x.f1 hs.p1.1 (fun y hy => eqValue_ev y (hs.p1.2 y hy))) (Ev.pos (by simp) ?_)
  exact Ev.now _
end Go.Proofs.Ytfbecaplnigmaaa.Px
end
section
namespace Go.Proofs.Ytfbecaplnigmaaa.Px
open Go.RowKit Go.Proofs.YtfbecaplnigmaaaW.PrintWords Go.Proofs.Ytfbecaplnigmaaa.Pl
set_option linter.unusedVariables false
set_option linter.unusedSimpArgs false
def wtDB : S27 → Nat
  | ⟨x0⟩ => (x0.length + wtTableDataS x0)
def cvDB : S27 → S37
  | ⟨x0⟩ => ⟨(cvTableDataS x0)⟩
theorem wtDB_eq (x : S27) : wtDB x = (x.f0.length + wtTableDataS x.f0) := by cases x; simp only [wtDB]
theorem cvDB_eq (x : S27) : cvDB x = ⟨(cvTableDataS x.f0)⟩ := by cases x; simp only [cvDB]
def SmDB (x : S37) : Prop := ((x.f0.length ≤ 1048576 ∧ ∀ y ∈ x.f0, SmTableData y))
theorem SmDB.p0 {x : S37} (h : SmDB x) : (x.f0.length ≤ 1048576 ∧ ∀ y ∈ x.f0, SmTableData y) := h
theorem smDB_of (x : S27) (hw : W27 x) (hw2 : wtDB x ≤ 1048576) : SmDB (cvDB x) := by
  have hb := hw2
  rw [wtDB_eq] at hb
  rw [cvDB_eq]
  exact ⟨by (try dsimp only); rw [cvTableDataS_map, List.length_map]; omega, fun z hz => by
      (try dsimp only at hz)
      rw [cvTableDataS_map] at hz
      obtain ⟨y, hy, rfl⟩ := List.mem_map.1 hz
      exact smTableData_of y (hw.2 y hy) (by have := sum_le_of_mem wtTableData hy; rw [← wtTableDataS_sum] at this; omega)⟩
theorem szDB_ev : ∀ x : S27, W27 x → ∀ left : Int, 0 ≤ left → left ≤ 1048576 → Ev (fun k => laws_szDB.f k (x.f0) left) (cut (wtDB x) left) := by
  intro x hw left h0 hl
  simp only [laws_szDB.f]
  rw [wtDB_eq]
  have hb0 : (0 : Int) ≤ left ∧ left ≤ 1048576 := ⟨h0, hl⟩
  refine Ev.bind (szTableDataS_of x.f0 hw.1 (fun y hy => szTableData_ev y (hw.2 y hy)) _ hb0.1 hb0.2) ?_
  by_cases hc0 : cut ((x.f0.length + wtTableDataS x.f0)) left < 0
  · refine Ev.pos hc0 (Ev.const ?_)
    have hn : cut ((x.f0.length + wtTableDataS x.f0)) left < 0 := hc0
    have hv := cut_neg.1 hn; unfold cut; rw [if_neg hv]
  refine Ev.neg hc0 ?_
  have hb1 : (0 : Int) ≤ cut ((x.f0.length + wtTableDataS x.f0)) left ∧ cut ((x.f0.length + wtTableDataS x.f0)) left ≤ 1048576 := ⟨by omega, by have := cut_le (n := (x.f0.length + wtTableDataS x.f0)) h0; omega⟩
  exact Ev.const rfl
theorem toDB_ev : ∀ x : S27, wtDB x ≤ 1048576 → Ev (fun k => laws_toDB.f k (x.f0)) (cvDB x).f0 := by
  intro x hw2
  simp only [laws_toDB.f]
  have hb := hw2
  rw [wtDB_eq] at hb
  refine Ev.bind (toTableDataS_of x.f0 (by omega) (fun y hy => toTableData_ev y (by have := sum_le_of_mem wtTableData hy; rw [← wtTableDataS_sum] at this; omega))) ?_
  exact Ev.const (by rw [cvDB_eq])
theorem eqDB_ev : ∀ x : S37, SmDB x → Ev (fun k => laws_eqDB.f k (x.f0) (x.f0)) true := by
  intro x hs
  simp only [laws_eqDB.f]
  refine Ev.bind (eqTableDataS_of x.f0 hs.p0.1 (fun y hy => eqTableData_ev y (hs.p0.2 y hy))) (Ev.pos (by simp) ?_)
  exact Ev.now _
end Go.Proofs.Ytfbecaplnigmaaa.Px
end
section
namespace Go.Proofs.Ytfbecaplnigmaaa.Px
open Go.RowKit Go.Proofs.YtfbecaplnigmaaaW.PrintWords Go.Proofs.Ytfbecaplnigmaaa.Pl
set_option linter.unusedVariables false
set_option linter.unusedSimpArgs false
mutual
def wtType : S67 → Nat
  | ⟨x0, x1, x2⟩ => wts x1 + (x2.length + wtTypeS x2)
def wtTypeS : List S67 → Nat
  | [] => 0
  | x :: r => wtType x + wtTypeS r
end
mutual
def cvType : S67 → S51
  | ⟨x0, x1, x2⟩ => ⟨x0, x1, (cvTypeS x2)⟩
def cvTypeS : List S67 → List S51
  | [] => []
  | x :: r => cvType x :: cvTypeS r
end
theorem wtTypeS_sum (xs : List S67) : wtTypeS xs = (xs.map wtType).sum := by
  induction xs with
  | nil => rfl
  | cons x r ih => simp [wtTypeS, ih]
theorem cvTypeS_map (xs : List S67) : cvTypeS xs = xs.map cvType := by
  induction xs with
  | nil => rfl
  | cons x r ih => simp [cvTypeS, ih]
theorem wtType_eq (x : S67) : wtType x = wts x.f1 + (x.f2.length + wtTypeS x.f2) := by cases x; simp only [wtType]
theorem cvType_eq (x : S67) : cvType x = ⟨x.f0, x.f1, (cvTypeS x.f2)⟩ := by cases x; simp only [cvType]
theorem indTypeL {P : S67 → Prop} (h : ∀ x, (∀ y ∈ x.f2, P y) → P x) : ∀ x, P x
  | ⟨x0, x1, x2⟩ => h _ (fun y hy => indTypeL h y)
termination_by x => SizeOf.sizeOf x
decreasing_by
  have := List.sizeOf_lt_of_mem hy
  simp at this ⊢
  omega
theorem indTypeI {P : S51 → Prop} (h : ∀ x, (∀ y ∈ x.f2, P y) → P x) : ∀ x, P x
  | ⟨x0, x1, x2⟩ => h _ (fun y hy => indTypeI h y)
termination_by x => SizeOf.sizeOf x
decreasing_by
  have := List.sizeOf_lt_of_mem hy
  simp at this ⊢
  omega
inductive SmType : S51 → Prop
  | mk {x : S51} : ((Lit.int .i64 x.f0).wf = true) → ((x.f1.length ≤ 1048576 ∧ ∀ y ∈ x.f1, y.size ≤ 1048576)) → x.f2.length ≤ 1048576 → (∀ y ∈ x.f2, SmType y) → SmType x
theorem SmType.p0 {x : S51} (h : SmType x) : (Lit.int .i64 x.f0).wf = true := by cases h; assumption
theorem SmType.p1 {x : S51} (h : SmType x) : (x.f1.length ≤ 1048576 ∧ ∀ y ∈ x.f1, y.size ≤ 1048576) := by cases h; assumption
theorem SmType.p2 {x : S51} (h : SmType x) : x.f2.length ≤ 1048576 ∧ ∀ y ∈ x.f2, SmType y := by cases h; constructor <;> assumption
theorem etaType (x : S51) : (⟨x.f0, x.f1, x.f2⟩ : S51) = x := by obtain ⟨_, _, _⟩ := x; rfl
mutual
def ndType : S51 → Nat
  | ⟨x0, x1, x2⟩ => 1 + ndTypeS x2
def ndTypeS : List S51 → Nat
  | [] => 0
  | x :: r => ndType x + ndTypeS r
end
theorem ndTypeS_sum (xs : List S51) : ndTypeS xs = (xs.map ndType).sum := by
  induction xs with
  | nil => rfl
  | cons x r ih => simp [ndTypeS, ih]
theorem ndType_eq (x : S51) : ndType x = 1 + (x.f2.map ndType).sum := by cases x; simp only [ndType, ndTypeS_sum]
theorem ndType_cv : ∀ x : S67, ndType (cvType x) ≤ wtType x + 1 := by
  refine indTypeL fun x ih => ?_
  rw [ndType_eq, cvType_eq, wtType_eq]
  have hL : ∀ l : List S67, (∀ y ∈ l, ndType (cvType y) ≤ wtType y + 1) → ((l.map cvType).map ndType).sum ≤ l.length + (l.map wtType).sum := by
    intro l
    induction l with
    | nil => intro _; simp
    | cons y r ih2 =>
      intro h
      have h1 := h y (List.mem_cons_self ..)
      have h2 := ih2 (fun z hz => h z (List.mem_cons_of_mem _ hz))
      simp only [List.map_cons, List.sum_cons, List.length_cons] at h2 ⊢
      omega
  have := hL x.f2 ih
  (try dsimp only)
  rw [cvTypeS_map, wtTypeS_sum]
  omega
theorem smType_of : ∀ x : S67, W67 x → wtType x ≤ 1048576 → SmType (cvType x) := by
  refine indTypeL fun x ih hw hw2 => ?_
  have hb := hw2
  rw [wtType_eq] at hb
  rw [cvType_eq]
  exact SmType.mk (hw.p0) (⟨by (try dsimp only); unfold wts at hb; omega, fun y hy => by (try dsimp only at hy); have := sum_le_of_mem ByteArray.size hy; unfold wts szs at hb; omega⟩) (by (try dsimp only); rw [cvTypeS_map, List.length_map]; omega) (fun z hz => by
      (try dsimp only at hz)
      rw [cvTypeS_map] at hz
      obtain ⟨y, hy, rfl⟩ := List.mem_map.1 hz
      exact ih y hy (hw.p2.2 y hy) (by have := sum_le_of_mem wtType hy; rw [← wtTypeS_sum] at this; omega))
theorem szTypeS_of (xs : List S67) (hx : xs.length ≤ maxLen) (h : ∀ y ∈ xs, ∀ left : Int, 0 ≤ left → left ≤ 1048576 → Ev (fun k => laws_szType.f k (y.f0) (y.f1) (y.f2) left) (cut (wtType y) left)) (left : Int) (h0 : 0 ≤ left) (hl : left ≤ 1048576) : Ev (fun k => laws_szTypeS.f k xs left) (cut (xs.length + wtTypeS xs) left) := by
  refine Ev.up ?_
  simp only [laws_szTypeS.f]
  have hs := cut_sub (n := xs.length) h0 hl hx
  by_cases hc : cut xs.length left < 0
  · exact Ev.pos (hs.1.2 hc) (Ev.const (cut_add' hc).symm)
  · refine Ev.neg (fun h => hc (hs.1.1 h)) ?_
    rw [hs.2 (by omega)]
    have hl2 := cut_le (n := xs.length) h0
    have hw := sz_loop xs.length (fun k i left => laws_szType.f k ((rd_T67 xs (i : Int)).f0) ((rd_T67 xs (i : Int)).f1) ((rd_T67 xs (i : Int)).f2) left) (fun k left i => laws_szTypeS.l0 k xs left (i : Int)) (fun i => wtType (xs.getD i z67)) (fun k left i hi => by
      simp only [laws_szTypeS.l0]
      rw [if_pos (by omega), if_pos (by omega), w1 hi hx]) (fun k left => by simp only [laws_szTypeS.l0]; rw [if_neg (by omega)]) (fun i left hi h0 hl => h _ (mem_getD xs z67 i hi) left h0 hl) xs.length 0 _ (by omega) (show 0 ≤ cut xs.length left by omega) (by omega)
    refine Ev.eq hw ?_
    rw [cut_add (by omega), sumF_list wtType z67 xs xs.length 0 (by omega), wtTypeS_sum]
    rfl
theorem szType_ev : ∀ x : S67, W67 x → ∀ left : Int, 0 ≤ left → left ≤ 1048576 → Ev (fun k => laws_szType.f k (x.f0) (x.f1) (x.f2) left) (cut (wtType x) left) := by
  refine indTypeL fun x ih hw left h0 hl => ?_
  refine Ev.up ?_
  simp only [laws_szType.f]
  rw [wtType_eq]
  have hb0 : (0 : Int) ≤ left ∧ left ≤ 1048576 := ⟨h0, hl⟩
  refine Ev.bind (szStringS_ev x.f1 hw.p1 _ hb0.1 hb0.2) ?_
  by_cases hc0 : cut (wts x.f1) left < 0
  · refine Ev.pos hc0 (Ev.const ?_)
    have hn : cut (wts x.f1) left < 0 := hc0
    have hn : cut (wts x.f1 + (x.f2.length + wtTypeS x.f2)) left < 0 := by rw [cut_add' hn]; omega
    have hv := cut_neg.1 hn; unfold cut; rw [if_neg hv]
  refine Ev.neg hc0 ?_
  have hb1 : (0 : Int) ≤ cut (wts x.f1) left ∧ cut (wts x.f1) left ≤ 1048576 := ⟨by omega, by have := cut_le (n := wts x.f1) h0; omega⟩
  refine Ev.bind (szTypeS_of x.f2 hw.p2.1 (fun y hy => ih y hy (hw.p2.2 y hy)) _ hb1.1 hb1.2) ?_
  by_cases hc1 : cut ((x.f2.length + wtTypeS x.f2)) (cut (wts x.f1) left) < 0
  · refine Ev.pos hc1 (Ev.const ?_)
    have hn : cut (wts x.f1 + (x.f2.length + wtTypeS x.f2)) left < 0 := by rw [← cut_add (by omega)]; exact hc1
    have hv := cut_neg.1 hn; unfold cut; rw [if_neg hv]
  refine Ev.neg hc1 ?_
  rw [cut_add (by omega)] at hc1 ⊢
  have hb2 : (0 : Int) ≤ cut (wts x.f1 + (x.f2.length + wtTypeS x.f2)) left ∧ cut (wts x.f1 + (x.f2.length + wtTypeS x.f2)) left ≤ 1048576 := ⟨by omega, by have := cut_le (n := wts x.f1 + (x.f2.length + wtTypeS x.f2)) h0; omega⟩
  exact Ev.const rfl
theorem toTypeS_of (xs : List S67) (hx : xs.length ≤ 1048576) (h : ∀ y ∈ xs, Ev (fun k => laws_toType.f k (y.f0) (y.f1) (y.f2)) ((cvType y).f0, (cvType y).f1, (cvType y).f2)) : Ev (fun k => laws_toTypeS.f k xs) (cvTypeS xs) := by
  refine Ev.up ?_
  simp only [laws_toTypeS.f]
  refine Ev.pos (by omega) (Ev.pos (by omega) ?_)
  have hw := to_loop xs.length (fun k i => (laws_toType.f k ((rd_T67 xs (i : Int)).f0) ((rd_T67 xs (i : Int)).f1) ((rd_T67 xs (i : Int)).f2)).map fun t => (⟨t.1, t.2.1, t.2.2⟩ : S51)) (fun k out i => laws_toTypeS.l0 k xs out (i : Int)) (fun i => cvType (xs.getD i z67)) (fun k out i hi hl => by
    simp only [laws_toTypeS.l0]
    rw [if_pos (by omega), if_pos (by omega)]
    rcases laws_toType.f k ((rd_T67 xs (i : Int)).f0) ((rd_T67 xs (i : Int)).f1) ((rd_T67 xs (i : Int)).f2) with _ | t
    · rfl
    · simp only [Option.map_some, Option.bind_some]
      rw [if_pos (by omega), w1' hi hx]
      rfl) (fun k out => by simp only [laws_toTypeS.l0]; rw [if_neg (by omega)]) (fun i hi => Ev.eq (Ev.map (fun t => (⟨t.1, t.2.1, t.2.2⟩ : S51)) (h _ (mem_getD xs z67 i hi))) (etaType _)) xs.length 0 (List.replicate ((xs.length : Int)).toNat z51) (by omega) (by simp)
  refine Ev.eq hw ?_
  rw [List.take_zero, List.nil_append, range_map_getElem cvType z67 xs, cvTypeS_map]
theorem toType_ev : ∀ x : S67, wtType x ≤ 1048576 → Ev (fun k => laws_toType.f k (x.f0) (x.f1) (x.f2)) ((cvType x).f0, (cvType x).f1, (cvType x).f2) := by
  refine indTypeL fun x ih hw2 => ?_
  refine Ev.up ?_
  simp only [laws_toType.f]
  have hb := hw2
  rw [wtType_eq] at hb
  refine Ev.bind (toStringS_ev x.f1 (by unfold wts at hb; omega)) ?_
  refine Ev.bind (toTypeS_of x.f2 (by omega) (fun y hy => ih y hy (by have := sum_le_of_mem wtType hy; rw [← wtTypeS_sum] at this; omega))) ?_
  exact Ev.const (by rw [cvType_eq])
theorem eqTypeS_of (xs : List S51) (hx : xs.length ≤ 1048576) (h : ∀ y ∈ xs, Ev (fun k => laws_eqType.f k (y.f0) (y.f1) (y.f2) (y.f0) (y.f1) (y.f2)) true) : Ev (fun k => laws_eqTypeS.f k xs xs) true := by
  refine Ev.up ?_
  simp only [laws_eqTypeS.f]
  refine Ev.pos (by simp) ?_
  exact eq_loop xs.length (fun k i => laws_eqType.f k ((rd_T51 xs (i : Int)).f0) ((rd_T51 xs (i : Int)).f1) ((rd_T51 xs (i : Int)).f2) ((rd_T51 xs (i : Int)).f0) ((rd_T51 xs (i : Int)).f1) ((rd_T51 xs (i : Int)).f2)) (fun k i => laws_eqTypeS.l0 k xs xs (i : Int)) (fun k i hi => by
    simp only [laws_eqTypeS.l0]
    rw [if_pos (by omega), if_pos (by omega), if_pos (by omega), w1' hi hx]) (fun k => by simp only [laws_eqTypeS.l0]; rw [if_neg (by omega)]) (fun i hi => h _ (mem_getD xs z51 i hi)) xs.length 0 (by omega)
theorem eqType_ev : ∀ x : S51, SmType x → Ev (fun k => laws_eqType.f k (x.f0) (x.f1) (x.f2) (x.f0) (x.f1) (x.f2)) true := by
  refine indTypeI fun x ih hs => ?_
  refine Ev.up ?_
  simp only [laws_eqType.f]
  refine Ev.pos (by simp) ?_
  refine Ev.bind (eqStringS_ev x.f1 hs.p1.1) (Ev.pos (by simp) ?_)
  refine Ev.bind (eqTypeS_of x.f2 hs.p2.1 (fun y hy => ih y hy (hs.p2.2 y hy))) (Ev.pos (by simp) ?_)
  exact Ev.now _
end Go.Proofs.Ytfbecaplnigmaaa.Px
end
section
namespace Go.Proofs.Ytfbecaplnigmaaa.Px
open Go.RowKit Go.Proofs.YtfbecaplnigmaaaW.PrintWords Go.Proofs.Ytfbecaplnigmaaa.Pl
set_option linter.unusedVariables false
set_option linter.unusedSimpArgs false
def wtTableDecl : S69 → Nat
  | ⟨x0, x1⟩ => x0.size + wtType x1
def wtTableDeclS : List S69 → Nat
  | [] => 0
  | x :: r => wtTableDecl x + wtTableDeclS r
def cvTableDecl : S69 → S53
  | ⟨x0, x1⟩ => ⟨x0, (cvType x1)⟩
def cvTableDeclS : List S69 → List S53
  | [] => []
  | x :: r => cvTableDecl x :: cvTableDeclS r
theorem wtTableDeclS_sum (xs : List S69) : wtTableDeclS xs = (xs.map wtTableDecl).sum := by
  induction xs with
  | nil => rfl
  | cons x r ih => simp [wtTableDeclS, ih]
theorem cvTableDeclS_map (xs : List S69) : cvTableDeclS xs = xs.map cvTableDecl := by
  induction xs with
  | nil => rfl
  | cons x r ih => simp [cvTableDeclS, ih]
theorem wtTableDecl_eq (x : S69) : wtTableDecl x = x.f0.size + wtType x.f1 := by cases x; simp only [wtTableDecl]
theorem cvTableDecl_eq (x : S69) : cvTableDecl x = ⟨x.f0, (cvType x.f1)⟩ := by cases x; simp only [cvTableDecl]
def SmTableDecl (x : S53) : Prop := (x.f0.size ≤ 1048576) ∧ (SmType x.f1)
theorem SmTableDecl.p0 {x : S53} (h : SmTableDecl x) : x.f0.size ≤ 1048576 := h.1
theorem SmTableDecl.p1 {x : S53} (h : SmTableDecl x) : SmType x.f1 := h.2
theorem etaTableDecl (x : S53) : (⟨x.f0, (⟨x.f1.f0, x.f1.f1, x.f1.f2⟩ : S51)⟩ : S53) = x := by obtain ⟨_, ⟨_, _, _⟩⟩ := x; rfl
theorem smTableDecl_of (x : S69) (hw : W69 x) (hw2 : wtTableDecl x ≤ 1048576) : SmTableDecl (cvTableDecl x) := by
  have hb := hw2
  rw [wtTableDecl_eq] at hb
  rw [cvTableDecl_eq]
  exact ⟨by (try dsimp only); omega, smType_of _ hw.2 (by omega)⟩
theorem szTableDeclS_of (xs : List S69) (hx : xs.length ≤ maxLen) (h : ∀ y ∈ xs, ∀ left : Int, 0 ≤ left → left ≤ 1048576 → Ev (fun k => laws_szTableDecl.f k (y.f0) (y.f1.f0) (y.f1.f1) (y.f1.f2) left) (cut (wtTableDecl y) left)) (left : Int) (h0 : 0 ≤ left) (hl : left ≤ 1048576) : Ev (fun k => laws_szTableDeclS.f k xs left) (cut (xs.length + wtTableDeclS xs) left) := by
  simp only [laws_szTableDeclS.f]
  have hs := cut_sub (n := xs.length) h0 hl hx
  by_cases hc : cut xs.length left < 0
  · exact Ev.pos (hs.1.2 hc) (Ev.const (cut_add' hc).symm)
  · refine Ev.neg (fun h => hc (hs.1.1 h)) ?_
    rw [hs.2 (by omega)]
    have hl2 := cut_le (n := xs.length) h0
    have hw := sz_loop xs.length (fun k i left => laws_szTableDecl.f k ((rd_T69 xs (i : Int)).f0) ((rd_T69 xs (i : Int)).f1.f0) ((rd_T69 xs (i : Int)).f1.f1) ((rd_T69 xs (i : Int)).f1.f2) left) (fun k left i => laws_szTableDeclS.l0 k xs left (i : Int)) (fun i => wtTableDecl (xs.getD i z69)) (fun k left i hi => by
      simp only [laws_szTableDeclS.l0]
      rw [if_pos (by omega), if_pos (by omega), w1 hi hx]) (fun k left => by simp only [laws_szTableDeclS.l0]; rw [if_neg (by omega)]) (fun i left hi h0 hl => h _ (mem_getD xs z69 i hi) left h0 hl) xs.length 0 _ (by omega) (show 0 ≤ cut xs.length left by omega) (by omega)
    refine Ev.eq hw ?_
    rw [cut_add (by omega), sumF_list wtTableDecl z69 xs xs.length 0 (by omega), wtTableDeclS_sum]
    rfl
theorem szTableDecl_ev : ∀ x : S69, W69 x → ∀ left : Int, 0 ≤ left → left ≤ 1048576 → Ev (fun k => laws_szTableDecl.f k (x.f0) (x.f1.f0) (x.f1.f1) (x.f1.f2) left) (cut (wtTableDecl x) left) := by
  intro x hw left h0 hl
  simp only [laws_szTableDecl.f]
  rw [wtTableDecl_eq]
  have hb0 : (0 : Int) ≤ left ∧ left ≤ 1048576 := ⟨h0, hl⟩
  have hs0 := cut_sub (n := x.f0.size) hb0.1 hb0.2 (hw.1)
  by_cases hc0 : cut (x.f0.size) left < 0
  · refine Ev.pos (hs0.1.2 hc0) (Ev.const ?_)
    have hn : cut (x.f0.size) left < 0 := hc0
    have hn : cut (x.f0.size + wtType x.f1) left < 0 := by rw [cut_add' hn]; omega
    have hv := cut_neg.1 hn; unfold cut; rw [if_neg hv]
  refine Ev.neg (fun h => hc0 (hs0.1.1 h)) ?_
  rw [hs0.2 (by omega)]
  have hb1 : (0 : Int) ≤ cut (x.f0.size) left ∧ cut (x.f0.size) left ≤ 1048576 := ⟨by omega, by have := cut_le (n := x.f0.size) h0; omega⟩
  refine Ev.bind (szType_ev x.f1 hw.2 _ hb1.1 hb1.2) ?_
  by_cases hc1 : cut (wtType x.f1) (cut (x.f0.size) left) < 0
  · refine Ev.pos hc1 (Ev.const ?_)
    have hn : cut (x.f0.size + wtType x.f1) left < 0 := by rw [← cut_add (by omega)]; exact hc1
    have hv := cut_neg.1 hn; unfold cut; rw [if_neg hv]
  refine Ev.neg hc1 ?_
  rw [cut_add (by omega)] at hc1 ⊢
  have hb2 : (0 : Int) ≤ cut (x.f0.size + wtType x.f1) left ∧ cut (x.f0.size + wtType x.f1) left ≤ 1048576 := ⟨by omega, by have := cut_le (n := x.f0.size + wtType x.f1) h0; omega⟩
  exact Ev.const rfl
theorem toTableDeclS_of (xs : List S69) (hx : xs.length ≤ 1048576) (h : ∀ y ∈ xs, Ev (fun k => laws_toTableDecl.f k (y.f0) (y.f1.f0) (y.f1.f1) (y.f1.f2)) ((cvTableDecl y).f0, (cvTableDecl y).f1.f0, (cvTableDecl y).f1.f1, (cvTableDecl y).f1.f2)) : Ev (fun k => laws_toTableDeclS.f k xs) (cvTableDeclS xs) := by
  simp only [laws_toTableDeclS.f]
  refine Ev.pos (by omega) (Ev.pos (by omega) ?_)
  have hw := to_loop xs.length (fun k i => (laws_toTableDecl.f k ((rd_T69 xs (i : Int)).f0) ((rd_T69 xs (i : Int)).f1.f0) ((rd_T69 xs (i : Int)).f1.f1) ((rd_T69 xs (i : Int)).f1.f2)).map fun t => (⟨t.1, (⟨t.2.1, t.2.2.1, t.2.2.2⟩ : S51)⟩ : S53)) (fun k out i => laws_toTableDeclS.l0 k xs out (i : Int)) (fun i => cvTableDecl (xs.getD i z69)) (fun k out i hi hl => by
    simp only [laws_toTableDeclS.l0]
    rw [if_pos (by omega), if_pos (by omega)]
    rcases laws_toTableDecl.f k ((rd_T69 xs (i : Int)).f0) ((rd_T69 xs (i : Int)).f1.f0) ((rd_T69 xs (i : Int)).f1.f1) ((rd_T69 xs (i : Int)).f1.f2) with _ | t
    · rfl
    · simp only [Option.map_some, Option.bind_some]
      rw [if_pos (by omega), w1' hi hx]
      rfl) (fun k out => by simp only [laws_toTableDeclS.l0]; rw [if_neg (by omega)]) (fun i hi => Ev.eq (Ev.map (fun t => (⟨t.1, (⟨t.2.1, t.2.2.1, t.2.2.2⟩ : S51)⟩ : S53)) (h _ (mem_getD xs z69 i hi))) (etaTableDecl _)) xs.length 0 (List.replicate ((xs.length : Int)).toNat z53) (by omega) (by simp)
  refine Ev.eq hw ?_
  rw [List.take_zero, List.nil_append, range_map_getElem cvTableDecl z69 xs, cvTableDeclS_map]
theorem toTableDecl_ev : ∀ x : S69, wtTableDecl x ≤ 1048576 → Ev (fun k => laws_toTableDecl.f k (x.f0) (x.f1.f0) (x.f1.f1) (x.f1.f2)) ((cvTableDecl x).f0, (cvTableDecl x).f1.f0, (cvTableDecl x).f1.f1, (cvTableDecl x).f1.f2) := by
  intro x hw2
  simp only [laws_toTableDecl.f]
  have hb := hw2
  rw [wtTableDecl_eq] at hb
  refine Ev.bind (toType_ev x.f1 (by omega)) ?_
  exact Ev.const (by rw [cvTableDecl_eq])
theorem eqTableDeclS_of (xs : List S53) (hx : xs.length ≤ 1048576) (h : ∀ y ∈ xs, Ev (fun k => laws_eqTableDecl.f k (y.f0) (y.f1.f0) (y.f1.f1) (y.f1.f2) (y.f0) (y.f1.f0) (y.f1.f1) (y.f1.f2)) true) : Ev (fun k => laws_eqTableDeclS.f k xs xs) true := by
  simp only [laws_eqTableDeclS.f]
  refine Ev.pos (by simp) ?_
  exact eq_loop xs.length (fun k i => laws_eqTableDecl.f k ((rd_T53 xs (i : Int)).f0) ((rd_T53 xs (i : Int)).f1.f0) ((rd_T53 xs (i : Int)).f1.f1) ((rd_T53 xs (i : Int)).f1.f2) ((rd_T53 xs (i : Int)).f0) ((rd_T53 xs (i : Int)).f1.f0) ((rd_T53 xs (i : Int)).f1.f1) ((rd_T53 xs (i : Int)).f1.f2)) (fun k i => laws_eqTableDeclS.l0 k xs xs (i : Int)) (fun k i hi => by
    simp only [laws_eqTableDeclS.l0]
    rw [if_pos (by omega), if_pos (by omega), if_pos (by omega), w1' hi hx]) (fun k => by simp only [laws_eqTableDeclS.l0]; rw [if_neg (by omega)]) (fun i hi => h _ (mem_getD xs z53 i hi)) xs.length 0 (by omega)
theorem eqTableDecl_ev : ∀ x : S53, SmTableDecl x → Ev (fun k => laws_eqTableDecl.f k (x.f0) (x.f1.f0) (x.f1.f1) (x.f1.f2) (x.f0) (x.f1.f0) (x.f1.f1) (x.f1.f2)) true := by
  intro x hs
  simp only [laws_eqTableDecl.f]
  refine Ev.pos (by simp) ?_
  refine Ev.bind (eqType_ev x.f1 hs.p1) (Ev.pos (by simp) ?_)
  exact Ev.now _
end Go.Proofs.Ytfbecaplnigmaaa.Px
end
section
namespace Go.Proofs.Ytfbecaplnigmaaa.Px
open Go.RowKit Go.Proofs.YtfbecaplnigmaaaW.PrintWords Go.Proofs.Ytfbecaplnigmaaa.Pl
set_option linter.unusedVariables false
set_option linter.unusedSimpArgs false
def wtSchema : S24 → Nat
  | ⟨x0⟩ => (x0.length + wtTableDeclS x0)
def cvSchema : S24 → S33
  | ⟨x0⟩ => ⟨(cvTableDeclS x0)⟩
theorem wtSchema_eq (x : S24) : wtSchema x = (x.f0.length + wtTableDeclS x.f0) := by cases x; simp only [wtSchema]
theorem cvSchema_eq (x : S24) : cvSchema x = ⟨(cvTableDeclS x.f0)⟩ := by cases x; simp only [cvSchema]
def SmSchema (x : S33) : Prop := ((x.f0.length ≤ 1048576 ∧ ∀ y ∈ x.f0, SmTableDecl y))
theorem SmSchema.p0 {x : S33} (h : SmSchema x) : (x.f0.length ≤ 1048576 ∧ ∀ y ∈ x.f0, SmTableDecl y) := h
theorem smSchema_of (x : S24) (hw : W24 x) (hw2 : wtSchema x ≤ 1048576) : SmSchema (cvSchema x) := by
  have hb := hw2
  rw [wtSchema_eq] at hb
  rw [cvSchema_eq]
  exact ⟨by (try dsimp only); rw [cvTableDeclS_map, List.length_map]; omega, fun z hz => by
      (try dsimp only at hz)
      rw [cvTableDeclS_map] at hz
      obtain ⟨y, hy, rfl⟩ := List.mem_map.1 hz
      exact smTableDecl_of y (hw.2 y hy) (by have := sum_le_of_mem wtTableDecl hy; rw [← wtTableDeclS_sum] at this; omega)⟩
theorem szSchema_ev : ∀ x : S24, W24 x → ∀ left : Int, 0 ≤ left → left ≤ 1048576 → Ev (fun k => laws_szSchema.f k (x.f0) left) (cut (wtSchema x) left) := by
  intro x hw left h0 hl
  simp only [laws_szSchema.f]
  rw [wtSchema_eq]
  have hb0 : (0 : Int) ≤ left ∧ left ≤ 1048576 := ⟨h0, hl⟩
  refine Ev.bind (szTableDeclS_of x.f0 hw.1 (fun y hy => szTableDecl_ev y (hw.2 y hy)) _ hb0.1 hb0.2) ?_
  by_cases hc0 : cut ((x.f0.length + wtTableDeclS x.f0)) left < 0
  · refine Ev.pos hc0 (Ev.const ?_)
    have hn : cut ((x.f0.length + wtTableDeclS x.f0)) left < 0 := hc0
    have hv := cut_neg.1 hn; unfold cut; rw [if_neg hv]
  refine Ev.neg hc0 ?_
  have hb1 : (0 : Int) ≤ cut ((x.f0.length + wtTableDeclS x.f0)) left ∧ cut ((x.f0.length + wtTableDeclS x.f0)) left ≤ 1048576 := ⟨by omega, by have := cut_le (n := (x.f0.length + wtTableDeclS x.f0)) h0; omega⟩
  exact Ev.const rfl
theorem toSchema_ev : ∀ x : S24, wtSchema x ≤ 1048576 → Ev (fun k => laws_toSchema.f k (x.f0)) (cvSchema x).f0 := by
  intro x hw2
  simp only [laws_toSchema.f]
  have hb := hw2
  rw [wtSchema_eq] at hb
  refine Ev.bind (toTableDeclS_of x.f0 (by omega) (fun y hy => toTableDecl_ev y (by have := sum_le_of_mem wtTableDecl hy; rw [← wtTableDeclS_sum] at this; omega))) ?_
  exact Ev.const (by rw [cvSchema_eq])
theorem eqSchema_ev : ∀ x : S33, SmSchema x → Ev (fun k => laws_eqSchema.f k (x.f0) (x.f0)) true := by
  intro x hs
  simp only [laws_eqSchema.f]
  refine Ev.bind (eqTableDeclS_of x.f0 hs.p0.1 (fun y hy => eqTableDecl_ev y (hs.p0.2 y hy))) (Ev.pos (by simp) ?_)
  exact Ev.now _
end Go.Proofs.Ytfbecaplnigmaaa.Px
end
section
namespace Go.Proofs.Ytfbecaplnigmaaa.Px
open Go.RowKit Go.Proofs.YtfbecaplnigmaaaW.PrintWords Go.Proofs.YtfbecaplnigmaaaW.PrintLast Go.Proofs.Ytfbecaplnigmaaa.Pl Go.Proofs.Ytfbecaplnigmaaa.Ext
set_option linter.unusedVariables false
set_option linter.unusedSimpArgs false
theorem Texts_same (xs ys : List ByteArray) (hx : xs.length ≤ 1048576) : Same (fun k => spec_l3Texts.f k xs ys) (fun k => slices_Equal_string.f k xs ys) := by
  simp only [spec_l3Texts.f, slices_Equal_string.f]
  refine Same.ite Iff.rfl (fun h => ?_) (fun _ => Same.ret rfl)
  refine Same.loop0 xs.length (fun k i => spec_l3Texts.l0 k xs ys (i : Int)) (fun k i => slices_Equal_string.l0 k xs ys (xs.length : Int) (i : Int)) ?_ (fun i hi ih => ?_)
  · refine Same.up ?_
    simp only [spec_l3Texts.l0, slices_Equal_string.l0]
    exact Same.neg (by omega) (by omega) (Same.ret rfl)
  · refine Same.up ?_
    simp only [spec_l3Texts.l0, slices_Equal_string.l0, w1' hi hx]
    exact Same.pos (by omega) (by omega) (Same.pos (by omega) (by omega) (Same.posR (by omega) (Same.pos (by omega) (by omega) (Same.ite Iff.rfl (fun _ => ih) (fun _ => Same.ret rfl)))))

end Go.Proofs.Ytfbecaplnigmaaa.Px
end
section
namespace Go.Proofs.Ytfbecaplnigmaaa.Px
open Go.RowKit Go.Proofs.YtfbecaplnigmaaaW.PrintWords Go.Proofs.YtfbecaplnigmaaaW.PrintLast Go.Proofs.Ytfbecaplnigmaaa.Pl Go.Proofs.Ytfbecaplnigmaaa.Ext
set_option linter.unusedVariables false
set_option linter.unusedSimpArgs false
def small (c : Int) : Bool := decide (97 ≤ c) && decide (c ≤ 122)
def dig (c : Int) : Bool := decide (48 ≤ c) && decide (c ≤ 57)
def chkS (s : ByteArray) : Nat → Nat → Bool
  | _, 0 => true
  | i, m + 1 => (small (bt s i) || (i != 0 && dig (bt s i))) && chkS s (i + 1) m
def chkI (s : ByteArray) : Nat → Nat → Bool
  | _, 0 => true
  | i, m + 1 => (small (bt s i) || dig (bt s i)) && chkI s (i + 1) m
def isName (s : ByteArray) : Bool := chkS s 0 s.size && (decide (1 ≤ s.size ∧ s.size ≤ 4) && (s.toList != ([105, 102] : List UInt8) && s.toList != ([102, 111, 114] : List UInt8)))
theorem chk_later (s : ByteArray) : ∀ m i, i ≠ 0 → chkI s i m = chkS s i m := by
  intro m
  induction m with
  | zero => intro i h; rfl
  | succ m ih =>
    intro i h
    simp only [chkI, chkS]
    rw [ih (i + 1) (by omega)]
    have : (i != 0) = true := by simpa using h
    rw [this, Bool.true_and]
theorem isSmall_eq (c : Int) : impl_isSmall.f c = some (small c) := by
  unfold impl_isSmall.f small
  split
  · rename_i h; simp [show (97 : Int) ≤ c from h]
  · rename_i h; simp [show ¬ (97 : Int) ≤ c from h]
theorem isDigit_eq (c : Int) : impl_isDigit.f c = some (dig c) := by
  unfold impl_isDigit.f dig
  split
  · rename_i h; simp [show (48 : Int) ≤ c from h]
  · rename_i h; simp [show ¬ (48 : Int) ≤ c from h]
theorem small_pos {c : Int} (h : 97 ≤ c) (h2 : c ≤ 122) : small c = true := by simp [small, h, h2]
theorem small_neg {c : Int} (h : ¬ (97 ≤ c ∧ c ≤ 122)) : small c = false := by
  unfold small
  by_cases h1 : 97 ≤ c
  · by_cases h2 : c ≤ 122
    · exact absurd ⟨h1, h2⟩ h
    · simp [h2]
  · simp [h1]
theorem dig_pos {c : Int} (h : 48 ≤ c) (h2 : c ≤ 57) : dig c = true := by simp [dig, h, h2]
theorem dig_neg {c : Int} (h : ¬ (48 ≤ c ∧ c ≤ 57)) : dig c = false := by
  unfold dig
  by_cases h1 : 48 ≤ c
  · by_cases h2 : c ≤ 57
    · exact absurd ⟨h1, h2⟩ h
    · simp [h2]
  · simp [h1]
theorem spec_IsName_ev (s : ByteArray) (hs : s.size ≤ 1048576) : Ev (fun k => spec_IsName.f k s) (isName s) := by
  have hend : Ev (fun (k : Nat) => ((spec_l1In.f (s.size : Int) 1 4).bind fun t => (if t = true then (if s.toList = ([105, 102] : List UInt8) then (some false) else (some (s.toList != ([102, 111, 114] : List UInt8)))) else (some false)))) (decide (1 ≤ s.size ∧ s.size ≤ 4) && (s.toList != ([105, 102] : List UInt8) && s.toList != ([102, 111, 114] : List UInt8))) := by
    refine ⟨0, fun k _ => ?_⟩
    unfold spec_l1In.f
    by_cases h1 : 1 ≤ s.size
    · by_cases h2 : s.size ≤ 4
      · rw [if_pos (by omega), Option.bind_some, if_pos (by simpa using (by omega : (s.size : Int) ≤ 4))]
        by_cases h3 : s.toList = ([105, 102] : List UInt8)
        · rw [if_pos h3]; simp [h3]
        · rw [if_neg h3]
          have : (s.toList != ([105, 102] : List UInt8)) = true := by simpa using h3
          rw [this]; simp [h1, h2]
      · rw [if_pos (by omega), Option.bind_some, if_neg (by simpa using (by omega : (4 : Int) < s.size))]
        simp [h2]
    · rw [if_neg (by omega), Option.bind_some, if_neg (by simp)]
      simp [h1]
  suffices h : ∀ m i, i + m = s.size → Ev (fun k => spec_IsName.l0 k s (i : Int)) (chkS s i m && (decide (1 ≤ s.size ∧ s.size ≤ 4) && (s.toList != ([105, 102] : List UInt8) && s.toList != ([102, 111, 114] : List UInt8)))) from h s.size 0 (by omega)
  intro m
  induction m with
  | zero =>
    intro i hi
    refine Ev.up ?_
    simp only [spec_IsName.l0]
    exact Ev.neg (by omega) (Ev.eq hend (by simp [chkS]))
  | succ m ih =>
    intro i hi
    refine Ev.up ?_
    simp only [spec_IsName.l0, chkS]
    rw [w1' (n := s.size) (by omega) hs]
    have hr := ih (i + 1) (by omega)
    have hdig : ∀ (hsm : small (bt s (i : Int)) = false), Ev (fun k => if (i : Int) = 0 then some false else if bt s (i : Int) < 48 then some false else if bt s (i : Int) > 57 then some false else spec_IsName.l0 k s ((i + 1 : Nat) : Int)) ((small (bt s (i : Int)) || (i != 0 && dig (bt s (i : Int)))) && chkS s (i + 1) m && (decide (1 ≤ s.size ∧ s.size ≤ 4) && (s.toList != ([105, 102] : List UInt8) && s.toList != ([102, 111, 114] : List UInt8)))) := by
      intro hsm
      rw [hsm, Bool.false_or]
      refine Ev.cases (fun h0 => ?_) (fun h0 => Ev.cases (fun h1 => ?_) (fun h1 => Ev.cases (fun h2 => ?_) (fun h2 => ?_)))
      · obtain rfl : i = 0 := by omega
        exact Ev.const (by simp)
      · rw [dig_neg (by omega)]; exact Ev.const (by simp)
      · rw [dig_neg (by omega)]; exact Ev.const (by simp)
      · rw [dig_pos (by omega) (by omega)]
        have hi0 : (i != 0) = true := by simpa using (show i ≠ 0 by omega)
        exact Ev.eq hr (by rw [hi0, Bool.true_and, Bool.true_and])
    refine Ev.pos (by omega) (Ev.pos (by omega) (Ev.cases (fun h1 => Ev.cases (fun h2 => ?_) (fun h2 => hdig (small_neg (by omega)))) (fun h1 => hdig (small_neg (by omega)))))
    rw [small_pos (by omega) h2, Bool.true_or, Bool.true_and]
    exact hr
theorem impl_IsName_ev (s : ByteArray) (hs : s.size ≤ 1048576) : Ev (fun k => impl_IsName.f k s) (isName s) := by
  have hl : ∀ m i, i + m = s.size → Ev (fun k => impl_IsName.l0 k s (s.size : Int) (i : Int)) (chkI s i m) := by
    intro m
    induction m with
    | zero =>
      intro i hi
      refine Ev.up ?_
      simp only [impl_IsName.l0]
      exact Ev.neg (by omega) (Ev.now _)
    | succ m ih =>
      intro i hi
      refine Ev.up ?_
      simp only [impl_IsName.l0, chkI]
      rw [w1' (n := s.size) (by omega) hs]
      refine Ev.pos (by omega) (Ev.pos (by omega) (Ev.pos (by omega) (Ev.fix (isSmall_eq _) ?_)))
      refine Ev.cases (fun h1 => ?_) (fun h1 => Ev.fix (isDigit_eq _) (Ev.cases (fun h2 => ?_) (fun h2 => ?_)))
      · rw [h1, Bool.true_or, Bool.true_and]; exact ih (i + 1) (by omega)
      · rw [h2, Bool.or_true, Bool.true_and]; exact ih (i + 1) (by omega)
      · rw [Bool.eq_false_iff.2 h1, Bool.eq_false_iff.2 h2]; exact Ev.const (by simp)
  have hj : ∀ b, Ev (fun k => impl_IsName.j0 k s b) (!b && chkI s 0 s.size) := by
    intro b
    refine Ev.up ?_
    simp only [impl_IsName.j0]
    refine Ev.cases (fun h => ?_) (fun h => ?_)
    · rw [h]; exact Ev.const (by simp)
    · rw [Bool.eq_false_iff.2 h]; exact Ev.eq (hl s.size 0 (by omega)) (by simp)
  have hjt : Ev (fun k => impl_IsName.j0 k s true) false := Ev.eq (hj true) (by simp)
  have hfail : ¬ (1 ≤ s.size ∧ s.size ≤ 4) → isName s = false := by intro h; simp only [isName]; rw [decide_eq_false h]; simp
  simp only [impl_IsName.f]
  refine Ev.cases (fun h1 => ?_) (fun h1 => Ev.cases (fun h2 => ?_) (fun h2 => Ev.pos (by omega) (Ev.fix (isSmall_eq _) ?_)))
  · rw [hfail (by omega)]; exact hjt
  · rw [hfail (by omega)]; exact hjt
  · obtain ⟨n, hn⟩ : ∃ n, s.size = n + 1 := ⟨s.size - 1, by omega⟩
    have hc : isName s = ((small (bt s 0) && chkS s 1 n) && (s.toList != ([105, 102] : List UInt8) && s.toList != ([102, 111, 114] : List UInt8))) := by
      simp only [isName]
      rw [decide_eq_true (show 1 ≤ s.size ∧ s.size ≤ 4 by omega), Bool.true_and, hn]
      simp [chkS]
    rw [hc]
    refine Ev.cases (fun h3 => ?_) (fun h3 => ?_)
    · have hk : chkI s 0 s.size = chkS s 1 n := by
        rw [hn]
        simp only [chkI]
        rw [chk_later s n (0 + 1) (by omega)]
        rw [show small (bt s ((0 : Nat) : Int)) = true from h3, Bool.true_or, Bool.true_and]
      rw [h3, Bool.true_and]
      refine Ev.cases (fun h4 => ?_) (fun h4 => ?_)
      · rw [h4]; exact Ev.eq hjt (by simp)
      · have h4' : (s.toList != ([105, 102] : List UInt8)) = true := by simpa using h4
        refine Ev.eq (hj _) ?_
        rw [hk, h4', Bool.true_and, Bool.and_comm]
        rfl
    · rw [Bool.eq_false_iff.2 h3]; exact Ev.eq hjt (by simp)
end Go.Proofs.Ytfbecaplnigmaaa.Px
end
section
namespace Go.Proofs.Ytfbecaplnigmaaa.Px
open Go.RowKit Go.Proofs.YtfbecaplnigmaaaW.PrintWords Go.Proofs.YtfbecaplnigmaaaW.PrintLast Go.Proofs.Ytfbecaplnigmaaa.Pl Go.Proofs.Ytfbecaplnigmaaa.Ext
set_option linter.unusedVariables false
set_option linter.unusedSimpArgs false
/-- Are the names ascending, from an index on? -/
def asc (xs : List ByteArray) : Nat → Nat → Bool
  | _, 0 => true
  | i, m + 1 => Op.bytesLess (xs.getD (i - 1) ByteArray.empty).toList (xs.getD i ByteArray.empty).toList && asc xs (i + 1) m
theorem rdm (xs : List ByteArray) (i : Nat) (h : 1 ≤ i) (hi : i ≤ 1048576) : wrap64 ((i : Int) - 1) = ((i - 1 : Nat) : Int) := by unfold wrap64; omega
theorem spec_AreAscending_ev (xs : List ByteArray) (hx : xs.length ≤ 1048576) : Ev (fun k => spec_AreAscending.f k xs) (asc xs 1 (xs.length - 1)) := by
  suffices h : ∀ m i, 1 ≤ i → (i + m = xs.length ∨ m = 0 ∧ xs.length ≤ i) → i ≤ 1048576 → Ev (fun k => spec_AreAscending.l0 k xs (i : Int)) (asc xs i m) by
    exact h (xs.length - 1) 1 (by omega) (by omega) (by omega)
  intro m
  induction m with
  | zero =>
    intro i h1 hi hl
    refine Ev.up ?_
    simp only [spec_AreAscending.l0]
    exact Ev.neg (by omega) (Ev.now _)
  | succ m ih =>
    intro i h1 hi hl
    refine Ev.up ?_
    simp only [spec_AreAscending.l0]
    rw [rdm xs i h1 hl]
    refine Ev.pos (by omega) (Ev.pos (by omega) (Ev.pos (by omega) (Ev.pos (by omega) ?_)))
    simp only [rdOf_str, asc]
    by_cases hc : Op.bytesLess (xs.getD (i - 1) ByteArray.empty).toList (xs.getD i ByteArray.empty).toList = true
    · refine Ev.pos hc ?_
      rw [w1' (n := xs.length) (by omega) hx, hc, Bool.true_and]
      exact ih (i + 1) (by omega) (by omega) (by omega)
    · refine Ev.neg hc ?_
      rw [Bool.eq_false_iff.2 hc, Bool.false_and]
      exact Ev.now _
theorem impl_AreAscending_ev (xs : List ByteArray) (hx : xs.length ≤ 1048576) : Ev (fun k => impl_AreAscending.f k xs) (asc xs 1 (xs.length - 1)) := by
  suffices h : ∀ m i, 1 ≤ i → (i + m = xs.length ∨ m = 0 ∧ xs.length ≤ i) → i ≤ 1048576 → Ev (fun k => impl_AreAscending.l0 k xs (i : Int)) (asc xs i m) by
    exact h (xs.length - 1) 1 (by omega) (by omega) (by omega)
  intro m
  induction m with
  | zero =>
    intro i h1 hi hl
    refine Ev.up ?_
    simp only [impl_AreAscending.l0]
    exact Ev.neg (by omega) (Ev.now _)
  | succ m ih =>
    intro i h1 hi hl
    refine Ev.up ?_
    simp only [impl_AreAscending.l0]
    rw [rdm xs i h1 hl]
    refine Ev.pos (by omega) (Ev.pos (by omega) (Ev.pos (by omega) (Ev.pos (by omega) ?_)))
    simp only [rdOf_str, asc]
    by_cases hc : Op.bytesLess (xs.getD (i - 1) ByteArray.empty).toList (xs.getD i ByteArray.empty).toList = true
    · refine Ev.pos hc ?_
      rw [w1' (n := xs.length) (by omega) hx, hc, Bool.true_and]
      exact ih (i + 1) (by omega) (by omega) (by omega)
    · refine Ev.neg hc ?_
      rw [Bool.eq_false_iff.2 hc, Bool.false_and]
      exact Ev.now _
end Go.Proofs.Ytfbecaplnigmaaa.Px
end
section
namespace Go.Proofs.Ytfbecaplnigmaaa.Px
open Go.RowKit Go.Proofs.YtfbecaplnigmaaaW.PrintWords Go.Proofs.YtfbecaplnigmaaaW.PrintLast Go.Proofs.Ytfbecaplnigmaaa.Pl Go.Proofs.Ytfbecaplnigmaaa.Ext
set_option linter.unusedVariables false
set_option linter.unusedSimpArgs false
/-- Can a list be that of a record's labels? -/
def labB (xs : List ByteArray) : Bool := xs.all isName && (decide (1 ≤ xs.length ∧ xs.length ≤ 4) && asc xs 1 (xs.length - 1))
theorem spec_l1In_eq (a b c : Int) : spec_l1In.f a b c = some (decide (b ≤ a ∧ a ≤ c)) := by
  unfold spec_l1In.f
  by_cases h : a ≥ b
  · rw [if_pos h]
    have h' : b ≤ a := h
    simp [h']
  · rw [if_neg h]
    have h' : ¬ b ≤ a := h
    simp [h']
theorem spec_l3Labels_ev (xs : List ByteArray) (hx : xs.length ≤ 1048576) (hy : ∀ y ∈ xs, y.size ≤ 1048576) : Ev (fun k => spec_l3Labels.f k xs) (labB xs) := by
  simp only [spec_l3Labels.f, labB]
  refine all_ev xs ByteArray.empty isName _ (fun k i => spec_l3Labels.l0 k xs (i : Int)) (fun k i => spec_IsName.f k (rdOf ByteArray.empty xs (i : Int))) (fun k i hi => ?_) ?_ (fun i hi => ?_)
  · simp only [spec_l3Labels.l0]
    rw [if_pos (by omega), if_pos (by omega), w1' hi hx]
  · refine Ev.up ?_
    simp only [spec_l3Labels.l0, spec_l1In_eq, Option.bind_some]
    refine Ev.neg (by omega) ?_
    refine Ev.cases (fun h => ?_) (fun h => ?_)
    · have h2 : (1 ≤ xs.length ∧ xs.length ≤ 4) := by simp at h; omega
      rw [decide_eq_true h2, Bool.true_and]
      exact Ev.bind (spec_AreAscending_ev xs hx) (Ev.now _)
    · have h2 : ¬ (1 ≤ xs.length ∧ xs.length ≤ 4) := by intro h3; apply h; simp; omega
      rw [decide_eq_false h2, Bool.false_and]
      exact Ev.now _
  · rw [rdOf_str]
    exact spec_IsName_ev _ (hy _ (mem_getD xs _ i hi))
theorem IndexFunc_labels (xs : List ByteArray) (hx : xs.length ≤ 1048576) (hy : ∀ y ∈ xs, y.size ≤ 1048576) : ∃ r : Int, Ev (fun k => slices_IndexFunc_string_of_labelsOk_1.l0 k xs (xs.length : Int) 0) r ∧ decide (r ≥ 0) = !(xs.all isName) := by
  suffices h : ∀ m i, i + m = xs.length → ∃ r : Int, Ev (fun k => slices_IndexFunc_string_of_labelsOk_1.l0 k xs (xs.length : Int) (i : Int)) r ∧ decide (r ≥ 0) = !((xs.drop i).all isName) from by simpa using h xs.length 0 (by omega)
  intro m
  induction m with
  | zero =>
    intro i hi
    refine ⟨-1, Ev.up ?_, by rw [List.drop_of_length_le (by omega)]; rfl⟩
    simp only [slices_IndexFunc_string_of_labelsOk_1.l0]
    exact Ev.neg (by omega) (Ev.now _)
  | succ m ih =>
    intro i hi
    have hlt : i < xs.length := by omega
    have e : xs.getD i ByteArray.empty = xs[i] := by simp [List.getD_eq_getElem?_getD, hlt]
    have hn : Ev (fun k => impl_labelsOk_1.f k (rdOf ByteArray.empty xs (i : Int))) (!(isName xs[i])) := by
      simp only [impl_labelsOk_1.f]
      rw [rdOf_str, e]
      exact Ev.bind (impl_IsName_ev _ (by rw [← e]; exact hy _ (mem_getD xs _ i hlt))) (Ev.now _)
    rw [List.drop_eq_getElem_cons hlt, List.all_cons]
    cases hp : isName xs[i]
    · refine ⟨(i : Int), Ev.up ?_, by simp⟩
      simp only [slices_IndexFunc_string_of_labelsOk_1.l0]
      rw [hp] at hn
      exact Ev.pos (by omega) (Ev.pos (by omega) (Ev.pos (by omega) (Ev.bind hn (Ev.pos (by simp) (Ev.now _)))))
    · obtain ⟨r, h1, h2⟩ := ih (i + 1) (by omega)
      refine ⟨r, Ev.up ?_, by rw [h2]; simp⟩
      simp only [slices_IndexFunc_string_of_labelsOk_1.l0, w1' hlt hx]
      rw [hp] at hn
      exact Ev.pos (by omega) (Ev.pos (by omega) (Ev.pos (by omega) (Ev.bind hn (Ev.neg (by simp) h1))))
theorem impl_labelsOk_ev (xs : List ByteArray) (hx : xs.length ≤ 1048576) (hy : ∀ y ∈ xs, y.size ≤ 1048576) : Ev (fun k => impl_labelsOk.f k xs) (labB xs) := by
  simp only [impl_labelsOk.f, labB, slices_ContainsFunc_string_of_labelsOk_1.f, slices_IndexFunc_string_of_labelsOk_1.f]
  by_cases h1 : xs.length < 1
  · refine Ev.pos (by omega) (Ev.const ?_)
    rw [decide_eq_false (by omega)]; simp
  refine Ev.neg (by omega) ?_
  by_cases h2 : xs.length > 4
  · refine Ev.pos (by omega) (Ev.const ?_)
    rw [decide_eq_false (by omega)]; simp
  refine Ev.neg (by omega) ?_
  rw [decide_eq_true (by omega), Bool.true_and]
  refine Ev.bind (impl_AreAscending_ev xs hx) ?_
  refine Ev.cases (fun h => ?_) (fun h => ?_)
  · obtain ⟨r, g1, g2⟩ := IndexFunc_labels xs hx hy
    refine Ev.bind (Ev.bind g1 (Ev.now _)) (Ev.const ?_)
    rw [g2, h]; simp
  · rw [Bool.eq_false_iff.2 h]
    exact Ev.const (by simp)

end Go.Proofs.Ytfbecaplnigmaaa.Px
end
section
namespace Go.Proofs.Ytfbecaplnigmaaa.Px
open Go.RowKit Go.Proofs.YtfbecaplnigmaaaW.PrintWords Go.Proofs.YtfbecaplnigmaaaW.PrintLast Go.Proofs.Ytfbecaplnigmaaa.Pl Go.Proofs.Ytfbecaplnigmaaa.Ext
set_option linter.unusedVariables false
set_option linter.unusedSimpArgs false
theorem impl_SizeOfValue_ev : ∀ x : S56, SmValue x → ndValue x ≤ 1048577 → Ev (fun k => impl_SizeOfValue.f k x.f0 x.f1 x.f2 x.f3) (ndValue x : Int) := by
  refine indValueI fun x ih hs hn => ?_
  refine Ev.up ?_
  simp only [impl_SizeOfValue.f]
  rw [ndValue_eq] at hn ⊢
  refine Ev.eq (fold_loop x.f3.length (fun k i => impl_SizeOfValue.f k (rd_T56 x.f3 (i : Int)).f0 (rd_T56 x.f3 (i : Int)).f1 (rd_T56 x.f3 (i : Int)).f2 (rd_T56 x.f3 (i : Int)).f3) (fun k s i => impl_SizeOfValue.l0 k s (x.f3.length : Int) (i : Int) x.f0 x.f1 x.f2 x.f3) (fun s t => wrap64 (s + t)) (fun i => (ndValue (x.f3.getD i z56) : Int)) id
    (fun k s i hi => by simp only [impl_SizeOfValue.l0]; rw [if_pos (by omega), if_pos (by omega), if_pos (by omega), w1' hi hs.p3.1])
    (fun k s => by simp only [impl_SizeOfValue.l0]; rw [if_neg (by omega)]; rfl)
    (fun i hi => ih (x.f3.getD i z56) (mem_getD x.f3 z56 i hi) (hs.p3.2 _ (mem_getD x.f3 z56 i hi)) (by have := sum_le_of_mem ndValue (mem_getD x.f3 z56 i hi); omega)) x.f3.length 0 1 (by omega)) ?_
  rw [foldl_range (fun (s : Int) y => wrap64 (s + (ndValue y : Int))) z56 x.f3 1]
  exact fold_wrap ndValue x.f3 1 (by omega)

end Go.Proofs.Ytfbecaplnigmaaa.Px
end
section
namespace Go.Proofs.Ytfbecaplnigmaaa.Px
open Go.RowKit Go.Proofs.YtfbecaplnigmaaaW.PrintWords Go.Proofs.YtfbecaplnigmaaaW.PrintLast Go.Proofs.Ytfbecaplnigmaaa.Pl Go.Proofs.Ytfbecaplnigmaaa.Ext
set_option linter.unusedVariables false
set_option linter.unusedSimpArgs false
mutual
/-- Does a kind stand in a type? -/
def hasT (n : Int) : S51 → Bool
  | ⟨a, _, xs⟩ => hasTS n xs || a == n
def hasTS (n : Int) : List S51 → Bool
  | [] => false
  | x :: r => hasT n x || hasTS n r
end
mutual
/-- How deep is a type? -/
def depT : S51 → Nat
  | ⟨_, _, xs⟩ => depTS xs + 1
def depTS : List S51 → Nat
  | [] => 0
  | x :: r => max (depT x) (depTS r)
end
/-- How many arguments has a kind? -/
def wantT (a : Int) : Int := if a = 1 ∨ a = 2 then 0 else if a = 4 then 1 else if a = 5 then 2 else -1
/-- One node of a right type. -/
def topT (a : Int) (l : List ByteArray) (xs : List S51) : Bool :=
  if a = 3 then decide ((xs.length : Int) = l.length) && (labB l && !(hasTS 5 xs))
  else if a = 4 ∧ xs.length = 1 ∧ hasTS 5 xs = true then false
  else decide ((l.length : Int) = 0) && decide ((xs.length : Int) = wantT a)
mutual
def formT : S51 → Bool
  | ⟨a, l, xs⟩ => formTS xs && topT a l xs
def formTS : List S51 → Bool
  | [] => true
  | x :: r => formT x && formTS r
end
/-- One node, as_ the program looks at it. -/
def topI (plain : Bool) (deep : Int) (a : Int) (l : List ByteArray) (n : Nat) : Bool :=
  (decide (1 ≤ a ∧ a ≤ 5 ∧ deep ≤ 7) && decide ((n : Int) = imPut (imPut (imPut im0 4 1) 5 2) 3 (l.length : Int) a)) && (!(decide (a = 5) && plain) && (!(decide (a = 3) && !(labB l)) && (decide (a = 3) || decide (l.length = 0))))
mutual
def tfT (plain : Bool) (deep : Int) : S51 → Bool
  | ⟨a, l, xs⟩ => topI plain deep a l xs.length && tfTS (plain || (decide (a = 3) || decide (a = 4))) (deep + 1) xs
def tfTS (plain : Bool) (deep : Int) : List S51 → Bool
  | [] => true
  | x :: r => tfT plain deep x && tfTS plain deep r
end
theorem hasT_eq (n : Int) (x : S51) : hasT n x = (hasTS n x.f2 || x.f0 == n) := by cases x; simp only [hasT]
theorem depT_eq (x : S51) : depT x = depTS x.f2 + 1 := by cases x; simp only [depT]
theorem formT_eq (x : S51) : formT x = (formTS x.f2 && topT x.f0 x.f1 x.f2) := by cases x; simp only [formT]
theorem tfT_eq (p : Bool) (d : Int) (x : S51) : tfT p d x = (topI p d x.f0 x.f1 x.f2.length && tfTS (p || (decide (x.f0 = 3) || decide (x.f0 = 4))) (d + 1) x.f2) := by cases x; simp only [tfT]
theorem hasTS_any (n : Int) (xs : List S51) : hasTS n xs = xs.any (hasT n) := by
  induction xs with
  | nil => rfl
  | cons x r ih => simp [hasTS, ih]
theorem formTS_all (xs : List S51) : formTS xs = xs.all formT := by
  induction xs with
  | nil => rfl
  | cons x r ih => simp [formTS, ih]
theorem tfTS_all (p : Bool) (d : Int) (xs : List S51) : tfTS p d xs = xs.all (tfT p d) := by
  induction xs with
  | nil => rfl
  | cons x r ih => simp [tfTS, ih]
theorem depT_le (xs : List S51) (n : Nat) : depTS xs ≤ n ↔ ∀ y ∈ xs, depT y ≤ n := by
  induction xs with
  | nil => simp [depTS]
  | cons x r ih => simp [depTS, Nat.max_le, ih]
theorem depT_nd : ∀ x : S51, depT x ≤ ndType x := by
  refine indTypeI fun x ih => ?_
  rw [depT_eq, ndType_eq]
  have : depTS x.f2 ≤ (x.f2.map ndType).sum := (depT_le _ _).2 fun y hy => Nat.le_trans (ih y hy) (sum_le_of_mem ndType hy)
  omega
theorem many_eq (a : Int) (n : Nat) : imPut (imPut (imPut im0 4 1) 5 2) 3 (n : Int) a = if a = 3 then (n : Int) else if a = 5 then 2 else if a = 4 then 1 else 0 := by
  simp only [imPut, im0]
theorem tfT_iff : ∀ x : S51, ∀ p d, tfT p d x = true ↔ formT x = true ∧ (p = true → hasT 5 x = false) ∧ d + (depT x : Int) ≤ 8 := by
  refine indTypeI fun x ih p d => ?_
  rw [tfT_eq, formT_eq, hasT_eq, depT_eq]
  have hS : ∀ q, tfTS q (d + 1) x.f2 = true ↔ formTS x.f2 = true ∧ (q = true → hasTS 5 x.f2 = false) ∧ (x.f2 = [] ∨ d + (depTS x.f2 : Int) ≤ 7) := by
    intro q
    rw [tfTS_all, formTS_all, hasTS_any, List.all_eq_true, List.all_eq_true]
    constructor
    · intro h
      refine ⟨fun y hy => ((ih y hy q (d + 1)).1 (h y hy)).1, fun hq => ?_, ?_⟩
      · rw [Bool.eq_false_iff]
        intro hc
        obtain ⟨y, hy, h5⟩ := List.any_eq_true.1 hc
        rw [((ih y hy q (d + 1)).1 (h y hy)).2.1 hq] at h5
        exact absurd h5 (by decide)
      · by_cases he : x.f2 = []
        · exact Or.inl he
        refine Or.inr ?_
        have hb : ∀ y ∈ x.f2, (depT y : Int) ≤ 7 - d := fun y hy => by have := ((ih y hy q (d + 1)).1 (h y hy)).2.2; omega
        obtain ⟨y0, hy0⟩ := List.exists_mem_of_ne_nil _ he
        have h0 := hb y0 hy0
        have : depTS x.f2 ≤ (7 - d).toNat := (depT_le _ _).2 fun y hy => by have := hb y hy; omega
        omega
    · intro h y hy
      refine (ih y hy q (d + 1)).2 ⟨h.1 y hy, fun hq => ?_, ?_⟩
      · rw [Bool.eq_false_iff]
        intro hc
        have := h.2.1 hq
        rw [Bool.eq_false_iff] at this
        exact this (List.any_eq_true.2 ⟨y, hy, hc⟩)
      · rcases h.2.2 with he | hd
        · rw [he] at hy; cases hy
        have := (depT_le x.f2 (depTS x.f2)).1 (Nat.le_refl _) y hy
        omega
  rw [Bool.and_eq_true, hS]
  have hlen : x.f2 = [] ↔ x.f2.length = 0 := by cases x.f2 <;> simp
  have hdep : x.f2 = [] → depTS x.f2 = 0 := fun h => by rw [h]; rfl
  have hno : x.f2 = [] → hasTS 5 x.f2 = false := fun h => by rw [h]; rfl
  generalize x.f2 = xs at *
  generalize x.f0 = a at *
  generalize x.f1 = l at *
  simp only [topI, topT, many_eq, wantT]
  by_cases h3 : a = 3
  · subst h3
    simp only [if_true, Bool.and_eq_true, decide_eq_true_eq, Bool.or_eq_true, Bool.not_eq_true', Bool.and_eq_false_iff, decide_eq_false_iff_not, Bool.not_eq_false', Bool.or_eq_false_iff, beq_eq_false_iff_ne, true_or, or_true, true_implies, true_and, and_true, not_true_eq_false, false_or, or_false]
    constructor
    · rintro ⟨⟨⟨⟨_, _, h7⟩, hn⟩, _, hl⟩, hf, hh, hd⟩
      refine ⟨⟨hf, hn, hl, hh⟩, fun _ => ⟨hh, by decide⟩, ?_⟩
      rcases hd with he | hd
      · rw [hdep he]; omega
      · omega
    · rintro ⟨⟨hf, hn, hl, hh⟩, _, hd⟩
      refine ⟨⟨⟨⟨by decide, by decide, by omega⟩, hn⟩, Or.inl (by decide), hl⟩, hf, hh, Or.inr (by omega)⟩
  · by_cases h4 : a = 4
    · subst h4
      simp only [show ¬ ((4 : Int) = 3) by decide, show ¬ ((4 : Int) = 5) by decide, show ¬ ((4 : Int) = 1 ∨ (4 : Int) = 2) by decide, if_false, if_true, Bool.and_eq_true, decide_eq_true_eq, Bool.or_eq_true, Bool.not_eq_true', Bool.and_eq_false_iff, decide_eq_false_iff_not, Bool.not_eq_false', Bool.or_eq_false_iff, beq_eq_false_iff_ne, true_and, false_or, or_true, true_or, not_false_eq_true, and_true, true_implies]
      constructor
      · rintro ⟨⟨⟨⟨_, _, h7⟩, hn⟩, hl⟩, hf, hh, hd⟩
        have h1 : xs.length = 1 := by omega
        have hd' : d + (depTS xs : Int) ≤ 7 := by
          rcases hd with he | hd
          · rw [hlen] at he; omega
          · exact hd
        rw [if_neg (by rintro ⟨_, h⟩; rw [hh] at h; cases h)]
        simp [hf, hl, h1, hh]
        omega
      · rintro ⟨⟨hf, ht⟩, hp, hd⟩
        by_cases hc : xs.length = 1 ∧ hasTS 5 xs = true
        · rw [if_pos hc] at ht; cases ht
        rw [if_neg hc] at ht
        simp at ht
        have h1 : xs.length = 1 := by omega
        have hh : hasTS 5 xs = false := by
          rw [Bool.eq_false_iff]; exact fun h => hc ⟨h1, h⟩
        exact ⟨⟨⟨⟨by decide, by decide, by omega⟩, by omega⟩, by simp [ht.1]⟩, hf, hh, Or.inr (by omega)⟩
    · have e34 : (decide (a = 3) || decide (a = 4)) = false := by simp [h3, h4]
      simp only [h3, h4, if_false, false_and, Bool.and_eq_true, decide_eq_true_eq, Bool.or_eq_true, Bool.not_eq_true', Bool.and_eq_false_iff, decide_eq_false_iff_not, Bool.not_eq_false', Bool.or_eq_false_iff, beq_eq_false_iff_ne, true_or, false_or, true_and, or_false, not_false_eq_true]
      constructor
      · rintro ⟨⟨⟨⟨h1, h5, h7⟩, hn⟩, hp5, hl⟩, hf, hh, hd⟩
        have hl0 : l = [] := by simpa using hl
        have hd' : d + (depTS xs : Int) ≤ 7 := by
          rcases hd with he | hd
          · rw [hdep he]; omega
          · exact hd
        refine ⟨⟨hf, ?_⟩, fun hp => ⟨hh hp, ?_⟩, by omega⟩
        · rw [hl0]
          simp
          split <;> (split at hn <;> omega)
        · intro h
          rcases hp5 with h' | h'
          · exact h' h
          · rw [h'] at hp; cases hp
      · rintro ⟨⟨hf, ht⟩, hp, hd⟩
        simp at ht
        have hl0 : l = [] := ht.1
        have hw := ht.2
        refine ⟨⟨⟨⟨?_, ?_, by omega⟩, ?_⟩, ?_, by simp [hl0]⟩, hf, fun h => (hp h).1, Or.inr (by omega)⟩
        · split at hw <;> (try split at hw) <;> omega
        · split at hw <;> (try split at hw) <;> omega
        · split at hw <;> (try split at hw) <;> (try split) <;> omega
        · by_cases h5 : a = 5
          · refine Or.inr ?_
            rw [Bool.eq_false_iff]
            exact fun h => (hp h).2 h5
          · exact Or.inl h5
theorem spec_l3Has_ev (n : Int) : ∀ x : S51, SmType x → Ev (fun k => spec_l3Has.f k x.f0 x.f1 x.f2 n) (hasT n x) := by
  refine indTypeI fun x ih hs => ?_
  rw [hasT_eq, hasTS_any]
  refine Ev.up ?_
  simp only [spec_l3Has.f]
  refine any_ev x.f2 z51 (hasT n) _ (fun k i => spec_l3Has.l0 k n (i : Int) x.f0 x.f1 x.f2) (fun k i => spec_l3Has.f k (rd_T51 x.f2 (i : Int)).f0 (rd_T51 x.f2 (i : Int)).f1 (rd_T51 x.f2 (i : Int)).f2 n) (fun k i hi => ?_) ?_ (fun i hi => ih (x.f2.getD i z51) (mem_getD x.f2 z51 i hi) (hs.p2.2 _ (mem_getD x.f2 z51 i hi)))
  · simp only [spec_l3Has.l0]
    rw [if_pos (by omega), if_pos (by omega), w1' hi hs.p2.1]
  · refine Ev.up ?_
    simp only [spec_l3Has.l0]
    exact Ev.neg (by omega) (Ev.now _)

end Go.Proofs.Ytfbecaplnigmaaa.Px
end
section
namespace Go.Proofs.Ytfbecaplnigmaaa.Px
open Go.RowKit Go.Proofs.YtfbecaplnigmaaaW.PrintWords Go.Proofs.YtfbecaplnigmaaaW.PrintLast Go.Proofs.Ytfbecaplnigmaaa.Pl Go.Proofs.Ytfbecaplnigmaaa.Ext
set_option linter.unusedVariables false
set_option linter.unusedSimpArgs false
theorem spec_l1Max_eq (a b : Int) : spec_l1Max.f a b = some (mx a b) := by
  rw [mx_eq]; unfold spec_l1Max.f; split <;> rfl

end Go.Proofs.Ytfbecaplnigmaaa.Px
end
section
namespace Go.Proofs.Ytfbecaplnigmaaa.Px
open Go.RowKit Go.Proofs.YtfbecaplnigmaaaW.PrintWords Go.Proofs.YtfbecaplnigmaaaW.PrintLast Go.Proofs.Ytfbecaplnigmaaa.Pl Go.Proofs.Ytfbecaplnigmaaa.Ext
set_option linter.unusedVariables false
set_option linter.unusedSimpArgs false
theorem impl_SizeOfType_ev : ∀ x : S51, SmType x → ndType x ≤ 1048577 → Ev (fun k => impl_SizeOfType.f k x.f0 x.f1 x.f2) (ndType x : Int) := by
  refine indTypeI fun x ih hs hn => ?_
  refine Ev.up ?_
  simp only [impl_SizeOfType.f]
  rw [ndType_eq] at hn ⊢
  refine Ev.eq (fold_loop x.f2.length (fun k i => impl_SizeOfType.f k (rd_T51 x.f2 (i : Int)).f0 (rd_T51 x.f2 (i : Int)).f1 (rd_T51 x.f2 (i : Int)).f2) (fun k s i => impl_SizeOfType.l0 k s x.f2 (x.f2.length : Int) (i : Int)) (fun s t => wrap64 (s + t)) (fun i => (ndType (x.f2.getD i z51) : Int)) id
    (fun k s i hi => by simp only [impl_SizeOfType.l0]; rw [if_pos (by omega), if_pos (by omega), if_pos (by omega), w1' hi hs.p2.1])
    (fun k s => by simp only [impl_SizeOfType.l0]; rw [if_neg (by omega)]; rfl)
    (fun i hi => ih (x.f2.getD i z51) (mem_getD x.f2 z51 i hi) (hs.p2.2 _ (mem_getD x.f2 z51 i hi)) (by have := sum_le_of_mem ndType (mem_getD x.f2 z51 i hi); omega)) x.f2.length 0 1 (by omega)) ?_
  rw [foldl_range (fun (s : Int) y => wrap64 (s + (ndType y : Int))) z51 x.f2 1]
  exact fold_wrap ndType x.f2 1 (by omega)

end Go.Proofs.Ytfbecaplnigmaaa.Px
end
section
namespace Go.Proofs.Ytfbecaplnigmaaa.Px
open Go.RowKit Go.Proofs.YtfbecaplnigmaaaW.PrintWords Go.Proofs.YtfbecaplnigmaaaW.PrintLast Go.Proofs.Ytfbecaplnigmaaa.Pl Go.Proofs.Ytfbecaplnigmaaa.Ext
set_option linter.unusedVariables false
set_option linter.unusedSimpArgs false
theorem spec_l3Form_ev : ∀ x : S51, SmType x → Ev (fun k => spec_l3Form.f k x.f0 x.f1 x.f2) (formT x) := by
 refine indTypeI fun x ih hs => ?_
 have j2 : ∀ b : Bool, (b = true ↔ (x.f0 = 1 ∨ x.f0 = 2)) → Ev (fun k => spec_l3Form.j2 k (-1) x.f0 b x.f0 x.f1 x.f2) (decide ((x.f1.length : Int) = 0) && decide ((x.f2.length : Int) = wantT x.f0)) := by
  intro b hb
  refine Ev.up ?_
  simp only [spec_l3Form.j2]
  unfold wantT
  refine Ev.cases (fun h => ?_) (fun h => ?_)
  ·rw [if_pos (hb.1 h)]
   exact Ev.cases (fun g => Ev.const (by rw [decide_eq_true g, Bool.true_and]; rfl)) (fun g => Ev.const (by rw [decide_eq_false g]; rfl))
  ·rw [if_neg (fun g => h (hb.2 g))]
   refine Ev.cases (fun g4 => ?_) (fun g4 => ?_)
   ·rw [if_pos g4]; exact Ev.cases (fun g => Ev.const (by rw [decide_eq_true g, Bool.true_and]; rfl)) (fun g => Ev.const (by rw [decide_eq_false g]; rfl))
   rw [if_neg g4]
   refine Ev.cases (fun g5 => ?_) (fun g5 => ?_)
   ·rw [if_pos g5]; exact Ev.cases (fun g => Ev.const (by rw [decide_eq_true g, Bool.true_and]; rfl)) (fun g => Ev.const (by rw [decide_eq_false g]; rfl))
   ·rw [if_neg g5]; exact Ev.cases (fun g => Ev.const (by rw [decide_eq_true g, Bool.true_and]; rfl)) (fun g => Ev.const (by rw [decide_eq_false g]; rfl))
 have j1 : ∀ b : Bool, Ev (fun k => spec_l3Form.j1 k b x.f0 x.f1 x.f2) (!b && (decide ((x.f1.length : Int) = 0) && decide ((x.f2.length : Int) = wantT x.f0))) := by
  intro b
  refine Ev.up ?_
  simp only [spec_l3Form.j1]
  refine Ev.cases (fun h => Ev.const (by simp [h])) (fun h => ?_)
  rw [Bool.eq_false_iff.2 h, Bool.not_false, Bool.true_and]
  refine Ev.cases (fun h1 => j2 _ (by simp [h1])) (fun h1 => j2 _ (by simp [h1]))
 rw [formT_eq, formTS_all]
 refine Ev.up ?_
 simp only [spec_l3Form.f]
 refine all_ev x.f2 z51 formT _ (fun k i => spec_l3Form.l0 k (i : Int) x.f0 x.f1 x.f2) (fun k i => spec_l3Form.f k (rd_T51 x.f2 (i : Int)).f0 (rd_T51 x.f2 (i : Int)).f1 (rd_T51 x.f2 (i : Int)).f2) (fun k i hi => ?_) ?_ (fun i hi => ih (x.f2.getD i z51) (mem_getD x.f2 z51 i hi) (hs.p2.2 _ (mem_getD x.f2 z51 i hi)))
 ·simp only [spec_l3Form.l0]
  rw [if_pos (by omega), if_pos (by omega), w1' hi hs.p2.1]
 ·refine Ev.up ?_
  simp only [spec_l3Form.l0]
  refine Ev.neg (by omega) ?_
  unfold topT
  refine Ev.cases (fun h3 => ?_) (fun h3 => ?_)
  ·rw [if_pos h3]
   refine Ev.cases (fun hl => ?_) (fun hl => ?_)
   ·rw [decide_eq_true hl, Bool.true_and]
    refine Ev.bind (spec_l3Labels_ev x.f1 hs.p1.1 hs.p1.2) ?_
    refine Ev.cases (fun hb => ?_) (fun hb => ?_)
    ·rw [hb, Bool.true_and]
     refine Ev.bind (spec_l3Has_ev 5 x hs) (Ev.const ?_)
     rw [hasT_eq, h3]; simp
    ·rw [Bool.eq_false_iff.2 hb]; exact Ev.now _
   ·rw [decide_eq_false hl]; exact Ev.now _
  ·rw [if_neg h3]
   refine Ev.cases (fun h4 => ?_) (fun h4 => ?_)
   ·refine Ev.cases (fun h1 => Ev.pos (by omega) ?_) (fun h1 => ?_)
    ·have hl1 : x.f2.length = 1 := by omega
     have hh := spec_l3Has_ev 5 (x.f2.getD 0 z51) (hs.p2.2 _ (mem_getD x.f2 z51 0 (by omega)))
     refine Ev.bind hh ?_
     have e : hasT 5 (x.f2.getD 0 z51) = hasTS 5 x.f2 := by
      obtain ⟨y, hy⟩ := List.length_eq_one_iff.1 hl1
      rw [hy]; simp [hasTS]
     rw [e]
     refine Ev.eq (j1 _) ?_
     cases hc : hasTS 5 x.f2
     ·rw [if_neg (by simp)]; rfl
     ·rw [if_pos ⟨h4, hl1, rfl⟩]; rfl
    ·rw [if_neg (by omega)]
     exact j1 false
   ·rw [if_neg (fun h => h4 h.1)]
    exact j1 false
theorem impl_typeForm_ev : ∀ x : S51, SmType x → ∀ p d, 0 ≤ d → d ≤ 8 → Ev (fun k => impl_typeForm.f k x.f0 x.f1 x.f2 p d) (tfT p d x) := by
 refine indTypeI fun x ih hs p d hd0 hd1 => ?_
 have wx := wf64 hs.p0
 have hl1 := hs.p1.1
 have j4 : d ≤ 7 → ∀ q, Ev (fun k => impl_typeForm.j4 k d q x.f2) (tfTS q (d + 1) x.f2) := by
  intro hd7 q
  refine Ev.up ?_
  simp only [impl_typeForm.j4]
  refine Ev.eq (all_ev x.f2 z51 (tfT q (d + 1)) true (fun k i => impl_typeForm.l0 k d q (x.f2.length : Int) (i : Int) x.f2) (fun k i => impl_typeForm.f k (rd_T51 x.f2 (i : Int)).f0 (rd_T51 x.f2 (i : Int)).f1 (rd_T51 x.f2 (i : Int)).f2 q (d + 1)) (fun k i hi => ?_) ?_ (fun i hi => ?_)) (by rw [tfTS_all, Bool.and_true])
  ·simp only [impl_typeForm.l0]
   rw [if_pos (by omega), if_pos (by omega), if_pos (by omega), w1' hi hs.p2.1, w64 (a := d + 1) (by omega) (by omega)]
  ·refine Ev.up ?_
   simp only [impl_typeForm.l0]
   exact Ev.neg (by omega) (Ev.now _)
  ·exact ih (x.f2.getD i z51) (mem_getD x.f2 z51 i hi) (hs.p2.2 _ (mem_getD x.f2 z51 i hi)) q (d + 1) (by omega) (by omega)
 have j3 : d ≤ 7 → Ev (fun k => impl_typeForm.j3 k p d x.f0 x.f2) (tfTS (p || (decide (x.f0 = 3) || decide (x.f0 = 4))) (d + 1) x.f2) := by
  intro hd7
  refine Ev.up ?_
  simp only [impl_typeForm.j3]
  refine Ev.cases (fun h => ?_) (fun h => ?_)
  ·rw [h, Bool.true_or]; exact j4 hd7 true
  ·rw [Bool.eq_false_iff.2 h, Bool.false_or]
   refine Ev.cases (fun h3 => ?_) (fun h3 => ?_)
   ·rw [decide_eq_true h3, Bool.true_or]; exact j4 hd7 true
   ·rw [decide_eq_false h3, Bool.false_or]; exact j4 hd7 _
 have j2 : d ≤ 7 → ∀ b : Bool, Ev (fun k => impl_typeForm.j2 k p d b x.f0 x.f1 x.f2) (!b && ((decide (x.f0 = 3) || decide (x.f1.length = 0)) && tfTS (p || (decide (x.f0 = 3) || decide (x.f0 = 4))) (d + 1) x.f2)) := by
  intro hd7 b
  refine Ev.up ?_
  simp only [impl_typeForm.j2]
  refine Ev.cases (fun h => Ev.const (by rw [h]; rfl)) (fun h => ?_)
  rw [Bool.eq_false_iff.2 h, Bool.not_false, Bool.true_and]
  refine Ev.cases (fun h3 => ?_) (fun h3 => ?_)
  ·have := j3 hd7
   rw [decide_eq_true h3] at this ⊢
   exact this
  ·rw [decide_eq_false h3, Bool.false_or]
   refine Ev.cases (fun hl => Ev.const ?_) (fun hl => ?_)
   ·rw [decide_eq_false (by omega)]; rfl
   ·rw [decide_eq_true (by omega), Bool.true_and]
    have := j3 hd7
    rw [decide_eq_false h3] at this
    exact this
 have j1 : d ≤ 7 → ∀ b : Bool, Ev (fun k => impl_typeForm.j1 k p d b x.f0 x.f1 x.f2) (!b && (!(decide (x.f0 = 3) && !(labB x.f1)) && ((decide (x.f0 = 3) || decide (x.f1.length = 0)) && tfTS (p || (decide (x.f0 = 3) || decide (x.f0 = 4))) (d + 1) x.f2))) := by
  intro hd7 b
  refine Ev.up ?_
  simp only [impl_typeForm.j1]
  refine Ev.cases (fun h => Ev.const (by rw [h]; rfl)) (fun h => ?_)
  rw [Bool.eq_false_iff.2 h, Bool.not_false, Bool.true_and]
  refine Ev.cases (fun h3 => ?_) (fun h3 => ?_)
  ·refine Ev.bind (impl_labelsOk_ev x.f1 hs.p1.1 hs.p1.2) ?_
   have := j2 hd7 (!(labB x.f1))
   rw [decide_eq_true h3] at this ⊢
   rw [Bool.true_and]
   exact this
  ·have := j2 hd7 false
   rw [decide_eq_false h3] at this ⊢
   rw [Bool.false_and]
   exact this
 have j0 : ∀ b : Bool, (b = false → d ≤ 7) → Ev (fun k => impl_typeForm.j0 k p d b x.f0 x.f1 x.f2) (!b && (!(decide (x.f0 = 5) && p) && (!(decide (x.f0 = 3) && !(labB x.f1)) && ((decide (x.f0 = 3) || decide (x.f1.length = 0)) && tfTS (p || (decide (x.f0 = 3) || decide (x.f0 = 4))) (d + 1) x.f2)))) := by
  intro b hb
  refine Ev.up ?_
  simp only [impl_typeForm.j0]
  refine Ev.cases (fun h => Ev.const (by rw [h]; rfl)) (fun h => ?_)
  have hd7 := hb (Bool.eq_false_iff.2 h)
  rw [Bool.eq_false_iff.2 h, Bool.not_false, Bool.true_and]
  refine Ev.cases (fun h5 => ?_) (fun h5 => ?_)
  ·rw [decide_eq_true h5, Bool.true_and]; exact j1 hd7 p
  ·rw [decide_eq_false h5, Bool.false_and]; exact j1 hd7 false
 rw [tfT_eq]
 unfold topI
 refine Ev.up ?_
 simp only [impl_typeForm.f]
 refine Ev.pos (by omega) (Ev.pos (by omega) (Ev.pos (by omega) (Ev.pos (by omega) ?_)))
 have no : ¬ (1 ≤ x.f0 ∧ x.f0 ≤ 5 ∧ d ≤ 7) → ∀ A B C : Bool, Ev (fun k => impl_typeForm.j0 k p d true x.f0 x.f1 x.f2) (((decide (1 ≤ x.f0 ∧ x.f0 ≤ 5 ∧ d ≤ 7) && A) && B) && C) := by
  intro h A B C
  rw [decide_eq_false h]
  exact j0 true (fun h => by cases h)
 refine Ev.cases (fun h1 => no (by omega) _ _ _) (fun h1 => ?_)
 refine Ev.cases (fun h2 => no (by omega) _ _ _) (fun h2 => ?_)
 refine Ev.cases (fun h3 => no (by omega) _ _ _) (fun h3 => ?_)
 rw [decide_eq_true (by omega : 1 ≤ x.f0 ∧ x.f0 ≤ 5 ∧ d ≤ 7), Bool.true_and]
 refine Ev.eq (j0 _ (fun _ => by omega)) ?_
 have e : ((x.f2.length : Int) != imPut (imPut (imPut im0 4 1) 5 2) 3 (x.f1.length : Int) x.f0) = !(decide ((x.f2.length : Int) = imPut (imPut (imPut im0 4 1) 5 2) 3 (x.f1.length : Int) x.f0)) := rfl
 rw [e, Bool.not_not]
 simp only [Bool.and_assoc]
theorem spec_l3Left_ev : ∀ x : S51, SmType x → ∀ n : Int, 0 ≤ n → n ≤ 1048577 → ∃ r, Ev (fun k => spec_l3Left.f k x.f0 x.f1 x.f2 n) r ∧ ((ndType x : Int) ≤ n → r = n - ndType x) ∧ (n < ndType x → r < 0) ∧ r ≤ 1048577 := by
 refine indTypeI fun x ih hs n hn hn2 => ?_
 rw [ndType_eq]
 have loop : ∀ m i s, i + m = x.f2.length → s ≤ 1048577 → ∃ r, Ev (fun k => spec_l3Left.l0 k s (i : Int) x.f0 x.f1 x.f2) r ∧ (0 ≤ s → (((((x.f2.drop i).map ndType).sum : Nat) : Int) ≤ s → r = s - (((x.f2.drop i).map ndType).sum : Nat)) ∧ (s < (((x.f2.drop i).map ndType).sum : Nat) → r < 0)) ∧ (s < 0 → r < 0) ∧ r ≤ 1048577 := by
  intro m
  induction m with
  | zero =>
   intro i s hi hs1
   refine ⟨s, Ev.up ?_, fun h => ?_, id, hs1⟩
   ·simp only [spec_l3Left.l0]; exact Ev.neg (by omega) (Ev.now _)
   ·rw [List.drop_of_length_le (by omega)]; simp <;> omega
  | succ m ihm =>
   intro i s hi hs1
   have hlt : i < x.f2.length := by omega
   have e : x.f2.getD i z51 = x.f2[i] := by simp [List.getD_eq_getElem?_getD, hlt]
   by_cases h0 : 0 ≤ s
   case neg =>
    refine ⟨s, Ev.up ?_, fun h => absurd h h0, id, hs1⟩
    simp only [spec_l3Left.l0]
    exact Ev.pos (by omega) (Ev.neg (by omega) (Ev.now _))
   obtain ⟨r, h1, h2, h3, h4⟩ := ih (x.f2.getD i z51) (mem_getD x.f2 z51 i hlt) (hs.p2.2 _ (mem_getD x.f2 z51 i hlt)) s h0 hs1
   obtain ⟨u, g1, g2, g3, g4⟩ := ihm (i + 1) r (by omega) h4
   refine ⟨u, Ev.up ?_, fun _ => ?_, fun h => by omega, g4⟩
   ·simp only [spec_l3Left.l0, w1' hlt hs.p2.1]
    exact Ev.pos (by omega) (Ev.pos h0 (Ev.pos (by omega) (Ev.bind h1 g1)))
   ·rw [List.drop_eq_getElem_cons hlt, List.map_cons, List.sum_cons, ← e]
    by_cases hc : (ndType (x.f2.getD i z51) : Int) ≤ s
    ·have := h2 hc
     have := g2 (by omega)
     omega
    have := h3 (by omega)
    have := g3 (by omega)
    omega
 obtain ⟨r, h1, h2, h3, h4⟩ := loop x.f2.length 0 (n - 1) (by omega) (by omega)
 refine ⟨r, Ev.up ?_, ?_, ?_, h4⟩
 ·simp only [spec_l3Left.f]
  rw [w64 (a := n - 1) (by omega) (by omega)]
  exact h1
 ·intro h; have := h2 (by omega); simp at this; omega
 ·intro h
  by_cases h0 : 0 ≤ n - 1
  case neg =>
   exact h3 (by omega)
  have := h2 h0; simp at this; omega

end Go.Proofs.Ytfbecaplnigmaaa.Px
end
section
namespace Go.Proofs.Ytfbecaplnigmaaa.Px
open Go.RowKit Go.Proofs.YtfbecaplnigmaaaW.PrintWords Go.Proofs.YtfbecaplnigmaaaW.PrintLast Go.Proofs.Ytfbecaplnigmaaa.Pl Go.Proofs.Ytfbecaplnigmaaa.Ext
set_option linter.unusedVariables false
set_option linter.unusedSimpArgs false
theorem mx_nat (a b : Nat) : mx (a : Int) (b : Int) = ((max a b : Nat) : Int) := by rw [mx_eq]; split <;> omega
theorem fold_mx : ∀ (xs : List S51) (s : Nat), xs.foldl (fun (s : Int) y => mx s (depT y : Int)) (s : Int) = ((max s (depTS xs) : Nat) : Int)
  | [], s => by simp [depTS]
  | x :: r, s => by
    rw [List.foldl_cons, mx_nat, fold_mx r]
    simp only [depTS]
    congr 1
    omega
theorem spec_DepthOfType_ev : ∀ x : S51, SmType x → ndType x ≤ 1048577 → Ev (fun k => spec_DepthOfType.f k x.f0 x.f1 x.f2) (depT x : Int) := by
  refine indTypeI fun x ih hs hn => ?_
  have hd := depT_nd x
  rw [ndType_eq] at hn
  refine Ev.up ?_
  simp only [spec_DepthOfType.f]
  refine Ev.eq (fold_loop x.f2.length (fun k i => spec_DepthOfType.f k (rd_T51 x.f2 (i : Int)).f0 (rd_T51 x.f2 (i : Int)).f1 (rd_T51 x.f2 (i : Int)).f2) (fun k s i => spec_DepthOfType.l0 k s (i : Int) x.f0 x.f1 x.f2) mx (fun i => (depT (x.f2.getD i z51) : Int)) (fun s => wrap64 (s + 1))
    (fun k s i hi => by simp only [spec_DepthOfType.l0, spec_l1Max_eq, Option.bind_some]; rw [if_pos (by omega), if_pos (by omega), w1' hi hs.p2.1])
    (fun k s => by simp only [spec_DepthOfType.l0]; rw [if_neg (by omega)])
    (fun i hi => ih (x.f2.getD i z51) (mem_getD x.f2 z51 i hi) (hs.p2.2 _ (mem_getD x.f2 z51 i hi)) (by have := sum_le_of_mem ndType (mem_getD x.f2 z51 i hi); omega)) x.f2.length 0 0 (by omega)) ?_
  rw [foldl_range (fun (s : Int) y => mx s (depT y : Int)) z51 x.f2 0]
  have e := fold_mx x.f2 0
  rw [depT_eq] at hd ⊢
  rw [ndType_eq] at hd
  rw [show (0 : Int) = ((0 : Nat) : Int) from rfl, e, w64 (by omega) (by omega)]
  omega
/-- Is a type valid? -/
def vT (x : S51) : Bool := decide (ndType x ≤ 24) && (decide (depT x ≤ 7) && formT x)
theorem spec_IsValidType_ev (x : S51) (hs : SmType x) (hn : ndType x ≤ 1048577) : Ev (fun k => spec_IsValidType.f k x.f0 x.f1 x.f2) (vT x) := by
  obtain ⟨r, h1, h2, h3, _⟩ := spec_l3Left_ev x hs 24 (by decide) (by decide)
  simp only [spec_IsValidType.f, vT]
  refine Ev.bind h1 ?_
  by_cases hc : ndType x ≤ 24
  · have := h2 (by omega)
    rw [decide_eq_true hc, Bool.true_and]
    refine Ev.pos (by omega) (Ev.bind (spec_DepthOfType_ev x hs hn) ?_)
    refine Ev.cases (fun hd => ?_) (fun hd => ?_)
    · rw [decide_eq_true (by omega), Bool.true_and]
      exact Ev.bind (spec_l3Form_ev x hs) (Ev.now _)
    · rw [decide_eq_false (by omega)]; exact Ev.now _
  · have := h3 (by omega)
    rw [decide_eq_false hc]
    exact Ev.neg (by omega) (Ev.now _)
theorem impl_IsValidType_ev (x : S51) (hs : SmType x) (hn : ndType x ≤ 1048577) : Ev (fun k => impl_IsValidType.f k x.f0 x.f1 x.f2) (vT x) := by
  simp only [impl_IsValidType.f, vT]
  refine Ev.bind (impl_typeForm_ev x hs false 1 (by decide) (by decide)) ?_
  have e := tfT_iff x false 1
  refine Ev.cases (fun h => ?_) (fun h => ?_)
  · obtain ⟨h1, _, h2⟩ := e.1 h
    refine Ev.bind (impl_SizeOfType_ev x hs hn) (Ev.const ?_)
    rw [h1, decide_eq_true (by omega : depT x ≤ 7)]
    simp
    omega
  · refine Ev.const ?_
    cases hf : formT x
    · simp
    · have : ¬ depT x ≤ 7 := fun hd => h (e.2 ⟨hf, fun hp => absurd hp (by decide), by omega⟩)
      rw [decide_eq_false this]; simp
/-- Is a type one of data? -/
def vD (x : S51) : Bool := vT x && !(hasT 5 x)
theorem spec_IsData_ev (x : S51) (hs : SmType x) (hn : ndType x ≤ 1048577) : Ev (fun k => spec_IsData.f k x.f0 x.f1 x.f2) (vD x) := by
  simp only [spec_IsData.f, vD]
  refine Ev.bind (spec_IsValidType_ev x hs hn) ?_
  refine Ev.cases (fun h => ?_) (fun h => ?_)
  · rw [h, Bool.true_and]
    exact Ev.bind (spec_l3Has_ev 5 x hs) (Ev.now _)
  · rw [Bool.eq_false_iff.2 h]; exact Ev.now _
theorem impl_IsData_ev (x : S51) (hs : SmType x) (hn : ndType x ≤ 1048577) : Ev (fun k => impl_IsData.f k x.f0 x.f1 x.f2) (vD x) := by
  simp only [impl_IsData.f, vD, vT]
  refine Ev.bind (impl_typeForm_ev x hs true 1 (by decide) (by decide)) ?_
  have e := tfT_iff x true 1
  refine Ev.cases (fun h => ?_) (fun h => ?_)
  · obtain ⟨h1, h3, h2⟩ := e.1 h
    refine Ev.bind (impl_SizeOfType_ev x hs hn) (Ev.const ?_)
    rw [h1, decide_eq_true (by omega : depT x ≤ 7), h3 rfl]
    simp
    omega
  · refine Ev.const ?_
    cases hf : formT x
    · simp
    · cases hh : hasT 5 x
      · have : ¬ depT x ≤ 7 := fun hd => h (e.2 ⟨hf, fun _ => hh, by omega⟩)
        rw [decide_eq_false this]; simp
      · simp
/-- Is a type that of a row? -/
def vR (x : S51) : Bool := vT x && (decide (x.f0 = 3) && x.f2.all (fun y => decide (y.f0 = 1) || y.f0 == 2))
theorem spec_l3Base_eq (a : Int) (l : List ByteArray) (r : List S51) : spec_l3Base.f a l r = some (decide (a = 1) || a == 2) := by
  unfold spec_l3Base.f; split
  · rename_i h; simp [h]
  · rename_i h; simp [h]
theorem spec_IsRow_ev (x : S51) (hs : SmType x) (hn : ndType x ≤ 1048577) : Ev (fun k => spec_IsRow.f k x.f0 x.f1 x.f2) (vR x) := by
  have no : Ev (fun k => spec_IsRow.j0 k true x.f0 x.f1 x.f2) false := by
    refine Ev.up ?_
    simp only [spec_IsRow.j0]
    exact Ev.pos (by simp) (Ev.now _)
  simp only [spec_IsRow.f, vR]
  refine Ev.bind (spec_IsValidType_ev x hs hn) ?_
  refine Ev.cases (fun h => ?_) (fun h => by rw [Bool.eq_false_iff.2 h]; exact no)
  rw [h, Bool.true_and]
  by_cases h3 : x.f0 = 3
  · rw [show (x.f0 != 3) = false from by simp [h3], decide_eq_true h3, Bool.true_and]
    refine Ev.up ?_
    simp only [spec_IsRow.j0]
    refine Ev.neg (by simp) ?_
    refine Ev.eq (all_ev x.f2 z51 (fun y => decide (y.f0 = 1) || y.f0 == 2) true (fun k i => spec_IsRow.l0 k (i : Int) x.f0 x.f1 x.f2) (fun k i => spec_l3Base.f (rd_T51 x.f2 (i : Int)).f0 (rd_T51 x.f2 (i : Int)).f1 (rd_T51 x.f2 (i : Int)).f2) (fun k i hi => ?_) ?_ (fun i hi => ?_)) (Bool.and_true _)
    · simp only [spec_IsRow.l0]
      rw [if_pos (by omega), if_pos (by omega), w1' hi hs.p2.1]
    · refine Ev.up ?_
      simp only [spec_IsRow.l0]
      exact Ev.neg (by omega) (Ev.now _)
    · simp only [spec_l3Base_eq]
      exact Ev.now _
  · rw [show (x.f0 != 3) = true from by simpa using h3, decide_eq_false h3]
    exact no
theorem impl_isPlain_eq (a : Int) (l : List ByteArray) (r : List S51) : impl_isPlain.f a l r = some (decide (a = 1) || a == 2) := by
  unfold impl_isPlain.f; split
  · rename_i h; simp [h]
  · rename_i h; simp [h]
theorem IndexFunc_row (xs : List S51) (hx : xs.length ≤ 1048576) : ∃ r : Int, Ev (fun k => slices_IndexFunc_Type_of_IsRow_1.l0 k xs (xs.length : Int) 0) r ∧ decide (r ≥ 0) = !(xs.all (fun y => decide (y.f0 = 1) || y.f0 == 2)) := by
  suffices h : ∀ m i, i + m = xs.length → ∃ r : Int, Ev (fun k => slices_IndexFunc_Type_of_IsRow_1.l0 k xs (xs.length : Int) (i : Int)) r ∧ decide (r ≥ 0) = !((xs.drop i).all (fun y => decide (y.f0 = 1) || y.f0 == 2)) from by simpa using h xs.length 0 (by omega)
  intro m
  induction m with
  | zero =>
    intro i hi
    refine ⟨-1, Ev.up ?_, by rw [List.drop_of_length_le (by omega)]; rfl⟩
    simp only [slices_IndexFunc_Type_of_IsRow_1.l0]
    exact Ev.neg (by omega) (Ev.now _)
  | succ m ih =>
    intro i hi
    have hlt : i < xs.length := by omega
    have e : rd_T51 xs (i : Int) = xs[i] := by
      show xs.getD i z51 = _
      simp [List.getD_eq_getElem?_getD, hlt]
    rw [List.drop_eq_getElem_cons hlt, List.all_cons]
    cases hp : (decide (xs[i].f0 = 1) || xs[i].f0 == 2)
    · refine ⟨(i : Int), Ev.up ?_, by simp⟩
      simp only [slices_IndexFunc_Type_of_IsRow_1.l0, impl_IsRow_1.f, impl_isPlain_eq, Option.bind_some, e, hp]
      exact Ev.pos (by omega) (Ev.pos (by omega) (Ev.pos (by omega) (Ev.pos (by simp) (Ev.now _))))
    · obtain ⟨r, h1, h2⟩ := ih (i + 1) (by omega)
      refine ⟨r, Ev.up ?_, by rw [h2]; simp⟩
      simp only [slices_IndexFunc_Type_of_IsRow_1.l0, impl_IsRow_1.f, impl_isPlain_eq, Option.bind_some, e, hp, w1' hlt hx]
      exact Ev.pos (by omega) (Ev.pos (by omega) (Ev.pos (by omega) (Ev.neg (by simp) h1)))
theorem impl_IsRow_ev (x : S51) (hs : SmType x) (hn : ndType x ≤ 1048577) : Ev (fun k => impl_IsRow.f k x.f0 x.f1 x.f2) (vR x) := by
  simp only [impl_IsRow.f, vR, slices_ContainsFunc_Type_of_IsRow_1.f, slices_IndexFunc_Type_of_IsRow_1.f]
  refine Ev.bind (impl_IsValidType_ev x hs hn) ?_
  refine Ev.cases (fun h => ?_) (fun h => by rw [Bool.eq_false_iff.2 h]; exact Ev.now _)
  rw [h, Bool.true_and]
  refine Ev.cases (fun h3 => ?_) (fun h3 => by rw [decide_eq_false h3]; exact Ev.now _)
  rw [decide_eq_true h3, Bool.true_and]
  obtain ⟨r, g1, g2⟩ := IndexFunc_row x.f2 hs.p2.1
  refine Ev.bind (Ev.bind g1 (Ev.now _)) (Ev.const ?_)
  rw [g2, Bool.not_not]
end Go.Proofs.Ytfbecaplnigmaaa.Px
end
section
namespace Go.Proofs.Ytfbecaplnigmaaa.Px
open Go.RowKit Go.Proofs.YtfbecaplnigmaaaW.PrintWords Go.Proofs.YtfbecaplnigmaaaW.PrintLast Go.Proofs.Ytfbecaplnigmaaa.Pl Go.Proofs.Ytfbecaplnigmaaa.Ext
set_option linter.unusedVariables false
set_option linter.unusedSimpArgs false
theorem spec_l5Left_ev : ∀ x : S56, SmValue x → ∀ n : Int, 0 ≤ n → n ≤ 1048577 → ∃ r, Ev (fun k => spec_l5Left.f k x.f0 x.f1 x.f2 x.f3 n) r ∧ ((ndValue x : Int) ≤ n → r = n - ndValue x) ∧ (n < ndValue x → r < 0) ∧ r ≤ 1048577 := by
  refine indValueI fun x ih hs n hn hn2 => ?_
  rw [ndValue_eq]
  have loop : ∀ m i s, i + m = x.f3.length → s ≤ 1048577 → ∃ r, Ev (fun k => spec_l5Left.l0 k s (i : Int) x.f0 x.f1 x.f2 x.f3) r ∧ (0 ≤ s → (((((x.f3.drop i).map ndValue).sum : Nat) : Int) ≤ s → r = s - (((x.f3.drop i).map ndValue).sum : Nat)) ∧ (s < (((x.f3.drop i).map ndValue).sum : Nat) → r < 0)) ∧ (s < 0 → r < 0) ∧ r ≤ 1048577 := by
    intro m
    induction m with
    | zero =>
      intro i s hi hs1
      refine ⟨s, Ev.up ?_, fun h => ?_, id, hs1⟩
      · simp only [spec_l5Left.l0]; exact Ev.neg (by omega) (Ev.now _)
      · rw [List.drop_of_length_le (by omega)]; simp <;> omega
    | succ m ihm =>
      intro i s hi hs1
      have hlt : i < x.f3.length := by omega
      have e : x.f3.getD i z56 = x.f3[i] := by simp [List.getD_eq_getElem?_getD, hlt]
      by_cases h0 : 0 ≤ s
      · obtain ⟨r, h1, h2, h3, h4⟩ := ih (x.f3.getD i z56) (mem_getD x.f3 z56 i hlt) (hs.p3.2 _ (mem_getD x.f3 z56 i hlt)) s h0 hs1
        obtain ⟨u, g1, g2, g3, g4⟩ := ihm (i + 1) r (by omega) h4
        refine ⟨u, Ev.up ?_, fun _ => ?_, fun h => by omega, g4⟩
        · simp only [spec_l5Left.l0, w1' hlt hs.p3.1]
          exact Ev.pos (by omega) (Ev.pos h0 (Ev.pos (by omega) (Ev.bind h1 g1)))
        · rw [List.drop_eq_getElem_cons hlt, List.map_cons, List.sum_cons, ← e]
          by_cases hc : (ndValue (x.f3.getD i z56) : Int) ≤ s
          · have := h2 hc
            have := g2 (by omega)
            omega
          · have := h3 (by omega)
            have := g3 (by omega)
            omega
      · refine ⟨s, Ev.up ?_, fun h => absurd h h0, id, hs1⟩
        simp only [spec_l5Left.l0]
        exact Ev.pos (by omega) (Ev.neg (by omega) (Ev.now _))
  obtain ⟨r, h1, h2, h3, h4⟩ := loop x.f3.length 0 (n - 1) (by omega) (by omega)
  refine ⟨r, Ev.up ?_, ?_, ?_, h4⟩
  · simp only [spec_l5Left.f]
    rw [w64 (a := n - 1) (by omega) (by omega)]
    exact h1
  · intro h; have := h2 (by omega); simp at this; omega
  · intro h
    by_cases h0 : 0 ≤ n - 1
    · have := h2 h0; simp at this; omega
    · exact h3 (by omega)

end Go.Proofs.Ytfbecaplnigmaaa.Px
end
