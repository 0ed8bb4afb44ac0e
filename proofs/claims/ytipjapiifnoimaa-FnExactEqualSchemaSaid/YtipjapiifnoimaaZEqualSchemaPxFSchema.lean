/- The family Schema of mirrored types: the weight of a value, its copy, and what the laws' own helpers come to. No condition. -/
import Derived.Test.YtipjapiifnoimaaZEqualSchemaPx16
import Derived.Test.YtipjapiifnoimaaZEqualSchemaPx18
import Derived.Test.YtipjapiifnoimaaZEqualSchemaPx19
import Derived.Test.YtipjapiifnoimaaZEqualSchemaPl
import Derived.Test.YtipjapiifnoimaaZEqualSchemaPxFString
import Derived.Test.YtipjapiifnoimaaZEqualSchemaPxFTableDecl
namespace Go.Proofs.Ytipjapiifnoimaa.Px
open Go.RowKit Go.Proofs.YtipjapiifnoimaaW.PrintWords Go.Proofs.Ytipjapiifnoimaa.Pl
set_option linter.unusedVariables false
set_option linter.unusedSimpArgs false
def wtSchema : S50 → Nat
  | ⟨x0⟩ => (x0.length + wtTableDeclS x0)
def cvSchema : S50 → S55
  | ⟨x0⟩ => ⟨(cvTableDeclS x0)⟩
theorem wtSchema_eq (x : S50) : wtSchema x = (x.f0.length + wtTableDeclS x.f0) := by cases x; simp only [wtSchema]
theorem cvSchema_eq (x : S50) : cvSchema x = ⟨(cvTableDeclS x.f0)⟩ := by cases x; simp only [cvSchema]
def SmSchema (x : S55) : Prop := ((x.f0.length ≤ 1048576 ∧ ∀ y ∈ x.f0, SmTableDecl y))
theorem SmSchema.p0 {x : S55} (h : SmSchema x) : (x.f0.length ≤ 1048576 ∧ ∀ y ∈ x.f0, SmTableDecl y) := h
theorem smSchema_of (x : S50) (hw : W50 x) (hw2 : wtSchema x ≤ 1048576) : SmSchema (cvSchema x) := by
  have hb := hw2
  rw [wtSchema_eq] at hb
  rw [cvSchema_eq]
  exact ⟨by (try dsimp only); rw [cvTableDeclS_map, List.length_map]; omega, fun z hz => by
      (try dsimp only at hz)
      rw [cvTableDeclS_map] at hz
      obtain ⟨y, hy, rfl⟩ := List.mem_map.1 hz
      exact smTableDecl_of y (hw.2 y hy) (by have := sum_le_of_mem wtTableDecl hy; rw [← wtTableDeclS_sum] at this; omega)⟩
theorem szSchema_ev : ∀ x : S50, W50 x → ∀ left : Int, 0 ≤ left → left ≤ 1048576 → Ev (fun k => laws_szSchema.f k (x.f0) left) (cut (wtSchema x) left) := by
  intro x hw left h0 hl
  simp only [laws_szSchema.f]
  rw [wtSchema_eq]
  have hb0 : (0 : Int) ≤ left ∧ left ≤ 1048576 := ⟨h0, hl⟩
  refine Ev.bind (szTableDeclS_of x.f0 hw.1 (fun y hy => szTableDecl_ev y (hw.2 y hy)) _ hb0.1 hb0.2) ?_
  by_cases hc0 : cut ((x.f0.length + wtTableDeclS x.f0)) left < 0
  · refine Ev.pos hc0 (Ev.const ?_)
    have hn : cut ((x.f0.length + wtTableDeclS x.f0)) left < 0 := hc0
    have hv := cut_neg.1 hn; unfold cut; rw [if_neg hv]
  refine Ev.neg hc0 ?_
  have hb1 : (0 : Int) ≤ cut ((x.f0.length + wtTableDeclS x.f0)) left ∧ cut ((x.f0.length + wtTableDeclS x.f0)) left ≤ 1048576 := ⟨by omega, by have := cut_le (n := (x.f0.length + wtTableDeclS x.f0)) h0; omega⟩
  exact Ev.const rfl
theorem toSchema_ev : ∀ x : S50, wtSchema x ≤ 1048576 → Ev (fun k => laws_toSchema.f k (x.f0)) (cvSchema x).f0 := by
  intro x hw2
  simp only [laws_toSchema.f]
  have hb := hw2
  rw [wtSchema_eq] at hb
  refine Ev.bind (toTableDeclS_of x.f0 (by omega) (fun y hy => toTableDecl_ev y (by have := sum_le_of_mem wtTableDecl hy; rw [← wtTableDeclS_sum] at this; omega))) ?_
  exact Ev.const (by rw [cvSchema_eq])
theorem eqSchema_ev : ∀ x : S55, SmSchema x → Ev (fun k => laws_eqSchema.f k (x.f0) (x.f0)) true := by
  intro x hs
  simp only [laws_eqSchema.f]
  refine Ev.bind (eqTableDeclS_of x.f0 hs.p0.1 (fun y hy => eqTableDecl_ev y (hs.p0.2 y hy))) (Ev.pos (by simp) ?_)
  exact Ev.now _
end Go.Proofs.Ytipjapiifnoimaa.Px
