/- The family TableData of mirrored types: the weight of a value, its copy, and what the laws' own helpers come to. No condition. -/
import Derived.Test.YtipjapiifnoimaaPe1
import Derived.Test.YtipjapiifnoimaaPe4
import Derived.Test.YtipjapiifnoimaaPe7
import Derived.Test.YtipjapiifnoimaaPl
import Derived.Test.YtipjapiifnoimaaPeFString
import Derived.Test.YtipjapiifnoimaaPeFValue
namespace Go.Proofs.Ytipjapiifnoimaa.Pe
open Go.RowKit Go.Proofs.YtipjapiifnoimaaW.PrintWords Go.Proofs.Ytipjapiifnoimaa.Pl
set_option linter.unusedVariables false
set_option linter.unusedSimpArgs false
def wtTableData : S120 → Nat
  | ⟨x0, x1⟩ => x0.size + (x1.length + wtValueS x1)
def wtTableDataS : List S120 → Nat
  | [] => 0
  | x :: r => wtTableData x + wtTableDataS r
def cvTableData : S120 → S101
  | ⟨x0, x1⟩ => ⟨x0, (cvValueS x1)⟩
def cvTableDataS : List S120 → List S101
  | [] => []
  | x :: r => cvTableData x :: cvTableDataS r
theorem wtTableDataS_sum (xs : List S120) : wtTableDataS xs = (xs.map wtTableData).sum := by
  induction xs with
  | nil => rfl
  | cons x r ih => simp [wtTableDataS, ih]
theorem cvTableDataS_map (xs : List S120) : cvTableDataS xs = xs.map cvTableData := by
  induction xs with
  | nil => rfl
  | cons x r ih => simp [cvTableDataS, ih]
theorem wtTableData_eq (x : S120) : wtTableData x = x.f0.size + (x.f1.length + wtValueS x.f1) := by cases x; simp only [wtTableData]
theorem cvTableData_eq (x : S120) : cvTableData x = ⟨x.f0, (cvValueS x.f1)⟩ := by cases x; simp only [cvTableData]
def SmTableData (x : S101) : Prop := (x.f0.size ≤ 1048576) ∧ ((x.f1.length ≤ 1048576 ∧ ∀ y ∈ x.f1, SmValue y))
theorem SmTableData.p0 {x : S101} (h : SmTableData x) : x.f0.size ≤ 1048576 := h.1
theorem SmTableData.p1 {x : S101} (h : SmTableData x) : (x.f1.length ≤ 1048576 ∧ ∀ y ∈ x.f1, SmValue y) := h.2
theorem etaTableData (x : S101) : (⟨x.f0, x.f1⟩ : S101) = x := by obtain ⟨_, _⟩ := x; rfl
theorem smTableData_of (x : S120) (hw : W120 x) (hw2 : wtTableData x ≤ 1048576) : SmTableData (cvTableData x) := by
  have hb := hw2
  rw [wtTableData_eq] at hb
  rw [cvTableData_eq]
  exact ⟨by (try dsimp only); omega, ⟨by (try dsimp only); rw [cvValueS_map, List.length_map]; omega, fun z hz => by
      (try dsimp only at hz)
      rw [cvValueS_map] at hz
      obtain ⟨y, hy, rfl⟩ := List.mem_map.1 hz
      exact smValue_of y (hw.2.2 y hy) (by have := sum_le_of_mem wtValue hy; rw [← wtValueS_sum] at this; omega)⟩⟩
theorem szTableDataS_of (xs : List S120) (hx : xs.length ≤ maxLen) (h : ∀ y ∈ xs, ∀ left : Int, 0 ≤ left → left ≤ 1048576 → Ev (fun k => laws_szTableData.f k (y.f0) (y.f1) left) (cut (wtTableData y) left)) (left : Int) (h0 : 0 ≤ left) (hl : left ≤ 1048576) : Ev (fun k => laws_szTableDataS.f k xs left) (cut (xs.length + wtTableDataS xs) left) := by
  simp only [laws_szTableDataS.f]
  have hs := cut_sub (n := xs.length) h0 hl hx
  by_cases hc : cut xs.length left < 0
  · exact Ev.pos (hs.1.2 hc) (Ev.const (cut_add' hc).symm)
  · refine Ev.neg (fun h => hc (hs.1.1 h)) ?_
    rw [hs.2 (by omega)]
    have hl2 := cut_le (n := xs.length) h0
    have hw := sz_loop xs.length (fun k i left => laws_szTableData.f k ((rd_T120 xs (i : Int)).f0) ((rd_T120 xs (i : Int)).f1) left) (fun k left i => laws_szTableDataS.l0 k xs left (i : Int)) (fun i => wtTableData (xs.getD i z120)) (fun k left i hi => by
      simp only [laws_szTableDataS.l0]
      rw [if_pos (by omega), if_pos (by omega), w1 hi hx]) (fun k left => by simp only [laws_szTableDataS.l0]; rw [if_neg (by omega)]) (fun i left hi h0 hl => h _ (mem_getD xs z120 i hi) left h0 hl) xs.length 0 _ (by omega) (show 0 ≤ cut xs.length left by omega) (by omega)
    refine Ev.eq hw ?_
    rw [cut_add (by omega), sumF_list wtTableData z120 xs xs.length 0 (by omega), wtTableDataS_sum]
    rfl
theorem szTableData_ev : ∀ x : S120, W120 x → ∀ left : Int, 0 ≤ left → left ≤ 1048576 → Ev (fun k => laws_szTableData.f k (x.f0) (x.f1) left) (cut (wtTableData x) left) := by
  intro x hw left h0 hl
  simp only [laws_szTableData.f]
  rw [wtTableData_eq]
  have hb0 : (0 : Int) ≤ left ∧ left ≤ 1048576 := ⟨h0, hl⟩
  have hs0 := cut_sub (n := x.f0.size) hb0.1 hb0.2 (hw.1)
  by_cases hc0 : cut (x.f0.size) left < 0
  · refine Ev.pos (hs0.1.2 hc0) (Ev.const ?_)
    have hn : cut (x.f0.size) left < 0 := hc0
    have hn : cut (x.f0.size + (x.f1.length + wtValueS x.f1)) left < 0 := by rw [cut_add' hn]; omega
    have hv := cut_neg.1 hn; unfold cut; rw [if_neg hv]
  refine Ev.neg (fun h => hc0 (hs0.1.1 h)) ?_
  rw [hs0.2 (by omega)]
  have hb1 : (0 : Int) ≤ cut (x.f0.size) left ∧ cut (x.f0.size) left ≤ 1048576 := ⟨by omega, by have := cut_le (n := x.f0.size) h0; omega⟩
  refine Ev.bind (szValueS_of x.f1 hw.2.1 (fun y hy => szValue_ev y (hw.2.2 y hy)) _ hb1.1 hb1.2) ?_
  by_cases hc1 : cut ((x.f1.length + wtValueS x.f1)) (cut (x.f0.size) left) < 0
  · refine Ev.pos hc1 (Ev.const ?_)
    have hn : cut (x.f0.size + (x.f1.length + wtValueS x.f1)) left < 0 := by rw [← cut_add (by omega)]; exact hc1
    have hv := cut_neg.1 hn; unfold cut; rw [if_neg hv]
  refine Ev.neg hc1 ?_
  rw [cut_add (by omega)] at hc1 ⊢
  have hb2 : (0 : Int) ≤ cut (x.f0.size + (x.f1.length + wtValueS x.f1)) left ∧ cut (x.f0.size + (x.f1.length + wtValueS x.f1)) left ≤ 1048576 := ⟨by omega, by have := cut_le (n := x.f0.size + (x.f1.length + wtValueS x.f1)) h0; omega⟩
  exact Ev.const rfl
theorem toTableDataS_of (xs : List S120) (hx : xs.length ≤ 1048576) (h : ∀ y ∈ xs, Ev (fun k => laws_toTableData.f k (y.f0) (y.f1)) ((cvTableData y).f0, (cvTableData y).f1)) : Ev (fun k => laws_toTableDataS.f k xs) (cvTableDataS xs) := by
  simp only [laws_toTableDataS.f]
  refine Ev.pos (by omega) (Ev.pos (by omega) ?_)
  have hw := to_loop xs.length (fun k i => (laws_toTableData.f k ((rd_T120 xs (i : Int)).f0) ((rd_T120 xs (i : Int)).f1)).map fun t => (⟨t.1, t.2⟩ : S101)) (fun k out i => laws_toTableDataS.l0 k xs out (i : Int)) (fun i => cvTableData (xs.getD i z120)) (fun k out i hi hl => by
    simp only [laws_toTableDataS.l0]
    rw [if_pos (by omega), if_pos (by omega)]
    rcases laws_toTableData.f k ((rd_T120 xs (i : Int)).f0) ((rd_T120 xs (i : Int)).f1) with _ | t
    · rfl
    · simp only [Option.map_some, Option.bind_some]
      rw [if_pos (by omega), w1' hi hx]
      rfl) (fun k out => by simp only [laws_toTableDataS.l0]; rw [if_neg (by omega)]) (fun i hi => Ev.eq (Ev.map (fun t => (⟨t.1, t.2⟩ : S101)) (h _ (mem_getD xs z120 i hi))) (etaTableData _)) xs.length 0 (List.replicate ((xs.length : Int)).toNat z101) (by omega) (by simp)
  refine Ev.eq hw ?_
  rw [List.take_zero, List.nil_append, range_map_getElem cvTableData z120 xs, cvTableDataS_map]
theorem toTableData_ev : ∀ x : S120, wtTableData x ≤ 1048576 → Ev (fun k => laws_toTableData.f k (x.f0) (x.f1)) ((cvTableData x).f0, (cvTableData x).f1) := by
  intro x hw2
  simp only [laws_toTableData.f]
  have hb := hw2
  rw [wtTableData_eq] at hb
  refine Ev.bind (toValueS_of x.f1 (by omega) (fun y hy => toValue_ev y (by have := sum_le_of_mem wtValue hy; rw [← wtValueS_sum] at this; omega))) ?_
  exact Ev.const (by rw [cvTableData_eq])
theorem eqTableDataS_of (xs : List S101) (hx : xs.length ≤ 1048576) (h : ∀ y ∈ xs, Ev (fun k => laws_eqTableData.f k (y.f0) (y.f1) (y.f0) (y.f1)) true) : Ev (fun k => laws_eqTableDataS.f k xs xs) true := by
  simp only [laws_eqTableDataS.f]
  refine Ev.pos (by simp) ?_
  exact eq_loop xs.length (fun k i => laws_eqTableData.f k ((rd_T101 xs (i : Int)).f0) ((rd_T101 xs (i : Int)).f1) ((rd_T101 xs (i : Int)).f0) ((rd_T101 xs (i : Int)).f1)) (fun k i => laws_eqTableDataS.l0 k xs xs (i : Int)) (fun k i hi => by
    simp only [laws_eqTableDataS.l0]
    rw [if_pos (by omega), if_pos (by omega), if_pos (by omega), w1' hi hx]) (fun k => by simp only [laws_eqTableDataS.l0]; rw [if_neg (by omega)]) (fun i hi => h _ (mem_getD xs z101 i hi)) xs.length 0 (by omega)
theorem eqTableData_ev : ∀ x : S101, SmTableData x → Ev (fun k => laws_eqTableData.f k (x.f0) (x.f1) (x.f0) (x.f1)) true := by
  intro x hs
  simp only [laws_eqTableData.f]
  refine Ev.pos (by simp) ?_
  refine Ev.bind (eqValueS_of x.f1 hs.p1.1 (fun y hy => eqValue_ev y (hs.p1.2 y hy))) (Ev.pos (by simp) ?_)
  exact Ev.now _
end Go.Proofs.Ytipjapiifnoimaa.Pe
