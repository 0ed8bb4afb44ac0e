/- The family DB of mirrored types: the weight of a value, its copy, and what the laws' own helpers come to. No condition. -/
import Derived.Test.YtipjapiifnoimaaPe1
import Derived.Test.YtipjapiifnoimaaPe4
import Derived.Test.YtipjapiifnoimaaPe8
import Derived.Test.YtipjapiifnoimaaPl
import Derived.Test.YtipjapiifnoimaaPeFString
import Derived.Test.YtipjapiifnoimaaPeFTableData
namespace Go.Proofs.Ytipjapiifnoimaa.Pe
open Go.RowKit Go.Proofs.YtipjapiifnoimaaW.PrintWords Go.Proofs.Ytipjapiifnoimaa.Pl
set_option linter.unusedVariables false
set_option linter.unusedSimpArgs false
def wtDB : S61 → Nat
  | ⟨x0⟩ => (x0.length + wtTableDataS x0)
def wtDBS : List S61 → Nat
  | [] => 0
  | x :: r => wtDB x + wtDBS r
def cvDB : S61 → S66
  | ⟨x0⟩ => ⟨(cvTableDataS x0)⟩
def cvDBS : List S61 → List S66
  | [] => []
  | x :: r => cvDB x :: cvDBS r
theorem wtDBS_sum (xs : List S61) : wtDBS xs = (xs.map wtDB).sum := by
  induction xs with
  | nil => rfl
  | cons x r ih => simp [wtDBS, ih]
theorem cvDBS_map (xs : List S61) : cvDBS xs = xs.map cvDB := by
  induction xs with
  | nil => rfl
  | cons x r ih => simp [cvDBS, ih]
theorem wtDB_eq (x : S61) : wtDB x = (x.f0.length + wtTableDataS x.f0) := by cases x; simp only [wtDB]
theorem cvDB_eq (x : S61) : cvDB x = ⟨(cvTableDataS x.f0)⟩ := by cases x; simp only [cvDB]
def SmDB (x : S66) : Prop := ((x.f0.length ≤ 1048576 ∧ ∀ y ∈ x.f0, SmTableData y))
theorem SmDB.p0 {x : S66} (h : SmDB x) : (x.f0.length ≤ 1048576 ∧ ∀ y ∈ x.f0, SmTableData y) := h
theorem etaDB (x : S66) : (⟨x.f0⟩ : S66) = x := by obtain ⟨_⟩ := x; rfl
theorem smDB_of (x : S61) (hw : W61 x) (hw2 : wtDB x ≤ 1048576) : SmDB (cvDB x) := by
  have hb := hw2
  rw [wtDB_eq] at hb
  rw [cvDB_eq]
  exact ⟨by (try dsimp only); rw [cvTableDataS_map, List.length_map]; omega, fun z hz => by
      (try dsimp only at hz)
      rw [cvTableDataS_map] at hz
      obtain ⟨y, hy, rfl⟩ := List.mem_map.1 hz
      exact smTableData_of y (hw.2 y hy) (by have := sum_le_of_mem wtTableData hy; rw [← wtTableDataS_sum] at this; omega)⟩
theorem szDB_ev : ∀ x : S61, W61 x → ∀ left : Int, 0 ≤ left → left ≤ 1048576 → Ev (fun k => laws_szDB.f k (x.f0) left) (cut (wtDB x) left) := by
  intro x hw left h0 hl
  simp only [laws_szDB.f]
  rw [wtDB_eq]
  have hb0 : (0 : Int) ≤ left ∧ left ≤ 1048576 := ⟨h0, hl⟩
  refine Ev.bind (szTableDataS_of x.f0 hw.1 (fun y hy => szTableData_ev y (hw.2 y hy)) _ hb0.1 hb0.2) ?_
  by_cases hc0 : cut ((x.f0.length + wtTableDataS x.f0)) left < 0
  · refine Ev.pos hc0 (Ev.const ?_)
    have hn : cut ((x.f0.length + wtTableDataS x.f0)) left < 0 := hc0
    have hv := cut_neg.1 hn; unfold cut; rw [if_neg hv]
  refine Ev.neg hc0 ?_
  have hb1 : (0 : Int) ≤ cut ((x.f0.length + wtTableDataS x.f0)) left ∧ cut ((x.f0.length + wtTableDataS x.f0)) left ≤ 1048576 := ⟨by omega, by have := cut_le (n := (x.f0.length + wtTableDataS x.f0)) h0; omega⟩
  exact Ev.const rfl
theorem toDB_ev : ∀ x : S61, wtDB x ≤ 1048576 → Ev (fun k => laws_toDB.f k (x.f0)) (cvDB x).f0 := by
  intro x hw2
  simp only [laws_toDB.f]
  have hb := hw2
  rw [wtDB_eq] at hb
  refine Ev.bind (toTableDataS_of x.f0 (by omega) (fun y hy => toTableData_ev y (by have := sum_le_of_mem wtTableData hy; rw [← wtTableDataS_sum] at this; omega))) ?_
  exact Ev.const (by rw [cvDB_eq])
theorem eqDB_ev : ∀ x : S66, SmDB x → Ev (fun k => laws_eqDB.f k (x.f0) (x.f0)) true := by
  intro x hs
  simp only [laws_eqDB.f]
  refine Ev.bind (eqTableDataS_of x.f0 hs.p0.1 (fun y hy => eqTableData_ev y (hs.p0.2 y hy))) (Ev.pos (by simp) ?_)
  exact Ev.now _
end Go.Proofs.Ytipjapiifnoimaa.Pe
