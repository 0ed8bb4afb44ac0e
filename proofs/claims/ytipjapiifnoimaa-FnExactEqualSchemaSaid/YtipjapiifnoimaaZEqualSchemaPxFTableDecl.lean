/- The family TableDecl of mirrored types: the weight of a value, its copy, and what the laws' own helpers come to. No condition. -/
import Derived.Test.YtipjapiifnoimaaZEqualSchemaPx16
import Derived.Test.YtipjapiifnoimaaZEqualSchemaPx17
import Derived.Test.YtipjapiifnoimaaZEqualSchemaPx18
import Derived.Test.YtipjapiifnoimaaZEqualSchemaPl
import Derived.Test.YtipjapiifnoimaaZEqualSchemaPxFString
import Derived.Test.YtipjapiifnoimaaZEqualSchemaPxFType
namespace Go.Proofs.Ytipjapiifnoimaa.Px
open Go.RowKit Go.Proofs.YtipjapiifnoimaaW.PrintWords Go.Proofs.Ytipjapiifnoimaa.Pl
set_option linter.unusedVariables false
set_option linter.unusedSimpArgs false
def wtTableDecl : S114 → Nat
  | ⟨x0, x1⟩ => x0.size + wtType x1
def wtTableDeclS : List S114 → Nat
  | [] => 0
  | x :: r => wtTableDecl x + wtTableDeclS r
def cvTableDecl : S114 → S89
  | ⟨x0, x1⟩ => ⟨x0, (cvType x1)⟩
def cvTableDeclS : List S114 → List S89
  | [] => []
  | x :: r => cvTableDecl x :: cvTableDeclS r
theorem wtTableDeclS_sum (xs : List S114) : wtTableDeclS xs = (xs.map wtTableDecl).sum := by
  induction xs with
  | nil => rfl
  | cons x r ih => simp [wtTableDeclS, ih]
theorem cvTableDeclS_map (xs : List S114) : cvTableDeclS xs = xs.map cvTableDecl := by
  induction xs with
  | nil => rfl
  | cons x r ih => simp [cvTableDeclS, ih]
theorem wtTableDecl_eq (x : S114) : wtTableDecl x = x.f0.size + wtType x.f1 := by cases x; simp only [wtTableDecl]
theorem cvTableDecl_eq (x : S114) : cvTableDecl x = ⟨x.f0, (cvType x.f1)⟩ := by cases x; simp only [cvTableDecl]
def SmTableDecl (x : S89) : Prop := (x.f0.size ≤ 1048576) ∧ (SmType x.f1)
theorem SmTableDecl.p0 {x : S89} (h : SmTableDecl x) : x.f0.size ≤ 1048576 := h.1
theorem SmTableDecl.p1 {x : S89} (h : SmTableDecl x) : SmType x.f1 := h.2
theorem etaTableDecl (x : S89) : (⟨x.f0, (⟨x.f1.f0, x.f1.f1, x.f1.f2⟩ : S30)⟩ : S89) = x := by obtain ⟨_, ⟨_, _, _⟩⟩ := x; rfl
theorem smTableDecl_of (x : S114) (hw : W114 x) (hw2 : wtTableDecl x ≤ 1048576) : SmTableDecl (cvTableDecl x) := by
  have hb := hw2
  rw [wtTableDecl_eq] at hb
  rw [cvTableDecl_eq]
  exact ⟨by (try dsimp only); omega, smType_of _ hw.2 (by omega)⟩
theorem szTableDeclS_of (xs : List S114) (hx : xs.length ≤ maxLen) (h : ∀ y ∈ xs, ∀ left : Int, 0 ≤ left → left ≤ 1048576 → Ev (fun k => laws_szTableDecl.f k (y.f0) (y.f1.f0) (y.f1.f1) (y.f1.f2) left) (cut (wtTableDecl y) left)) (left : Int) (h0 : 0 ≤ left) (hl : left ≤ 1048576) : Ev (fun k => laws_szTableDeclS.f k xs left) (cut (xs.length + wtTableDeclS xs) left) := by
  simp only [laws_szTableDeclS.f]
  have hs := cut_sub (n := xs.length) h0 hl hx
  by_cases hc : cut xs.length left < 0
  · exact Ev.pos (hs.1.2 hc) (Ev.const (cut_add' hc).symm)
  · refine Ev.neg (fun h => hc (hs.1.1 h)) ?_
    rw [hs.2 (by omega)]
    have hl2 := cut_le (n := xs.length) h0
    have hw := sz_loop xs.length (fun k i left => laws_szTableDecl.f k ((rd_T114 xs (i : Int)).f0) ((rd_T114 xs (i : Int)).f1.f0) ((rd_T114 xs (i : Int)).f1.f1) ((rd_T114 xs (i : Int)).f1.f2) left) (fun k left i => laws_szTableDeclS.l0 k xs left (i : Int)) (fun i => wtTableDecl (xs.getD i z114)) (fun k left i hi => by
      simp only [laws_szTableDeclS.l0]
      rw [if_pos (by omega), if_pos (by omega), w1 hi hx]) (fun k left => by simp only [laws_szTableDeclS.l0]; rw [if_neg (by omega)]) (fun i left hi h0 hl => h _ (mem_getD xs z114 i hi) left h0 hl) xs.length 0 _ (by omega) (show 0 ≤ cut xs.length left by omega) (by omega)
    refine Ev.eq hw ?_
    rw [cut_add (by omega), sumF_list wtTableDecl z114 xs xs.length 0 (by omega), wtTableDeclS_sum]
    rfl
theorem szTableDecl_ev : ∀ x : S114, W114 x → ∀ left : Int, 0 ≤ left → left ≤ 1048576 → Ev (fun k => laws_szTableDecl.f k (x.f0) (x.f1.f0) (x.f1.f1) (x.f1.f2) left) (cut (wtTableDecl x) left) := by
  intro x hw left h0 hl
  simp only [laws_szTableDecl.f]
  rw [wtTableDecl_eq]
  have hb0 : (0 : Int) ≤ left ∧ left ≤ 1048576 := ⟨h0, hl⟩
  have hs0 := cut_sub (n := x.f0.size) hb0.1 hb0.2 (hw.1)
  by_cases hc0 : cut (x.f0.size) left < 0
  · refine Ev.pos (hs0.1.2 hc0) (Ev.const ?_)
    have hn : cut (x.f0.size) left < 0 := hc0
    have hn : cut (x.f0.size + wtType x.f1) left < 0 := by rw [cut_add' hn]; omega
    have hv := cut_neg.1 hn; unfold cut; rw [if_neg hv]
  refine Ev.neg (fun h => hc0 (hs0.1.1 h)) ?_
  rw [hs0.2 (by omega)]
  have hb1 : (0 : Int) ≤ cut (x.f0.size) left ∧ cut (x.f0.size) left ≤ 1048576 := ⟨by omega, by have := cut_le (n := x.f0.size) h0; omega⟩
  refine Ev.bind (szType_ev x.f1 hw.2 _ hb1.1 hb1.2) ?_
  by_cases hc1 : cut (wtType x.f1) (cut (x.f0.size) left) < 0
  · refine Ev.pos hc1 (Ev.const ?_)
    have hn : cut (x.f0.size + wtType x.f1) left < 0 := by rw [← cut_add (by omega)]; exact hc1
    have hv := cut_neg.1 hn; unfold cut; rw [if_neg hv]
  refine Ev.neg hc1 ?_
  rw [cut_add (by omega)] at hc1 ⊢
  have hb2 : (0 : Int) ≤ cut (x.f0.size + wtType x.f1) left ∧ cut (x.f0.size + wtType x.f1) left ≤ 1048576 := ⟨by omega, by have := cut_le (n := x.f0.size + wtType x.f1) h0; omega⟩
  exact Ev.const rfl
theorem toTableDeclS_of (xs : List S114) (hx : xs.length ≤ 1048576) (h : ∀ y ∈ xs, Ev (fun k => laws_toTableDecl.f k (y.f0) (y.f1.f0) (y.f1.f1) (y.f1.f2)) ((cvTableDecl y).f0, (cvTableDecl y).f1.f0, (cvTableDecl y).f1.f1, (cvTableDecl y).f1.f2)) : Ev (fun k => laws_toTableDeclS.f k xs) (cvTableDeclS xs) := by
  simp only [laws_toTableDeclS.f]
  refine Ev.pos (by omega) (Ev.pos (by omega) ?_)
  have hw := to_loop xs.length (fun k i => (laws_toTableDecl.f k ((rd_T114 xs (i : Int)).f0) ((rd_T114 xs (i : Int)).f1.f0) ((rd_T114 xs (i : Int)).f1.f1) ((rd_T114 xs (i : Int)).f1.f2)).map fun t => (⟨t.1, (⟨t.2.1, t.2.2.1, t.2.2.2⟩ : S30)⟩ : S89)) (fun k out i => laws_toTableDeclS.l0 k xs out (i : Int)) (fun i => cvTableDecl (xs.getD i z114)) (fun k out i hi hl => by
    simp only [laws_toTableDeclS.l0]
    rw [if_pos (by omega), if_pos (by omega)]
    rcases laws_toTableDecl.f k ((rd_T114 xs (i : Int)).f0) ((rd_T114 xs (i : Int)).f1.f0) ((rd_T114 xs (i : Int)).f1.f1) ((rd_T114 xs (i : Int)).f1.f2) with _ | t
    · rfl
    · simp only [Option.map_some, Option.bind_some]
      rw [if_pos (by omega), w1' hi hx]
      rfl) (fun k out => by simp only [laws_toTableDeclS.l0]; rw [if_neg (by omega)]) (fun i hi => Ev.eq (Ev.map (fun t => (⟨t.1, (⟨t.2.1, t.2.2.1, t.2.2.2⟩ : S30)⟩ : S89)) (h _ (mem_getD xs z114 i hi))) (etaTableDecl _)) xs.length 0 (List.replicate ((xs.length : Int)).toNat z89) (by omega) (by simp)
  refine Ev.eq hw ?_
  rw [List.take_zero, List.nil_append, range_map_getElem cvTableDecl z114 xs, cvTableDeclS_map]
theorem toTableDecl_ev : ∀ x : S114, wtTableDecl x ≤ 1048576 → Ev (fun k => laws_toTableDecl.f k (x.f0) (x.f1.f0) (x.f1.f1) (x.f1.f2)) ((cvTableDecl x).f0, (cvTableDecl x).f1.f0, (cvTableDecl x).f1.f1, (cvTableDecl x).f1.f2) := by
  intro x hw2
  simp only [laws_toTableDecl.f]
  have hb := hw2
  rw [wtTableDecl_eq] at hb
  refine Ev.bind (toType_ev x.f1 (by omega)) ?_
  exact Ev.const (by rw [cvTableDecl_eq])
theorem eqTableDeclS_of (xs : List S89) (hx : xs.length ≤ 1048576) (h : ∀ y ∈ xs, Ev (fun k => laws_eqTableDecl.f k (y.f0) (y.f1.f0) (y.f1.f1) (y.f1.f2) (y.f0) (y.f1.f0) (y.f1.f1) (y.f1.f2)) true) : Ev (fun k => laws_eqTableDeclS.f k xs xs) true := by
  simp only [laws_eqTableDeclS.f]
  refine Ev.pos (by simp) ?_
  exact eq_loop xs.length (fun k i => laws_eqTableDecl.f k ((rd_T89 xs (i : Int)).f0) ((rd_T89 xs (i : Int)).f1.f0) ((rd_T89 xs (i : Int)).f1.f1) ((rd_T89 xs (i : Int)).f1.f2) ((rd_T89 xs (i : Int)).f0) ((rd_T89 xs (i : Int)).f1.f0) ((rd_T89 xs (i : Int)).f1.f1) ((rd_T89 xs (i : Int)).f1.f2)) (fun k i => laws_eqTableDeclS.l0 k xs xs (i : Int)) (fun k i hi => by
    simp only [laws_eqTableDeclS.l0]
    rw [if_pos (by omega), if_pos (by omega), if_pos (by omega), w1' hi hx]) (fun k => by simp only [laws_eqTableDeclS.l0]; rw [if_neg (by omega)]) (fun i hi => h _ (mem_getD xs z89 i hi)) xs.length 0 (by omega)
theorem eqTableDecl_ev : ∀ x : S89, SmTableDecl x → Ev (fun k => laws_eqTableDecl.f k (x.f0) (x.f1.f0) (x.f1.f1) (x.f1.f2) (x.f0) (x.f1.f0) (x.f1.f1) (x.f1.f2)) true := by
  intro x hs
  simp only [laws_eqTableDecl.f]
  refine Ev.pos (by simp) ?_
  refine Ev.bind (eqType_ev x.f1 hs.p1) (Ev.pos (by simp) ?_)
  exact Ev.now _
end Go.Proofs.Ytipjapiifnoimaa.Px
