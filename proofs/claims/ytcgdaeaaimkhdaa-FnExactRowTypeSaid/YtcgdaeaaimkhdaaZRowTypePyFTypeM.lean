/- The family Type of mirrored types: the weight of a value, its copy, and what the laws' own helpers come to. No condition. -/
import Derived.Test.YtcgdaeaaimkhdaaZRowTypePy7M
import Derived.Test.YtcgdaeaaimkhdaaZRowTypePy3M
import Derived.Test.YtcgdaeaaimkhdaaZRowTypePy6
import Derived.Test.YtcgdaeaaimkhdaaZRowTypePy9M
import Derived.Test.YtcgdaeaaimkhdaaZRowTypeWTabM
import Derived.Test.YtcgdaeaaimkhdaaZRowTypeWLastM
import Derived.Test.YtcgdaeaaimkhdaaZRowTypePy5
import Derived.Test.YtcgdaeaaimkhdaaZRowTypePy8
section
namespace Go.Proofs.Ytcgdaeaaimkhdaa.Py
open Go.RowKit Go.Proofs.YtcgdaeaaimkhdaaW.PrintWords Go.Proofs.Ytcgdaeaaimkhdaa.Pl
set_option linter.unusedVariables false
set_option linter.unusedSimpArgs false
mutual
def wtType : S25 → Nat
  | ⟨x0, x1, x2⟩ => wts x1 + (x2.length + wtTypeS x2)
def wtTypeS : List S25 → Nat
  | [] => 0
  | x :: r => wtType x + wtTypeS r
end
mutual
def cvType : S25 → S29
  | ⟨x0, x1, x2⟩ => ⟨x0, x1, (cvTypeS x2)⟩
def cvTypeS : List S25 → List S29
  | [] => []
  | x :: r => cvType x :: cvTypeS r
end
theorem wtTypeS_sum (xs : List S25) : wtTypeS xs = (xs.map wtType).sum := by
  induction xs with
  | nil => rfl
  | cons x r ih => simp [wtTypeS, ih]
theorem cvTypeS_map (xs : List S25) : cvTypeS xs = xs.map cvType := by
  induction xs with
  | nil => rfl
  | cons x r ih => simp [cvTypeS, ih]
theorem wtType_eq (x : S25) : wtType x = wts x.f1 + (x.f2.length + wtTypeS x.f2) := by cases x; simp only [wtType]
theorem cvType_eq (x : S25) : cvType x = ⟨x.f0, x.f1, (cvTypeS x.f2)⟩ := by cases x; simp only [cvType]
theorem indTypeL {P : S25 → Prop} (h : ∀ x, (∀ y ∈ x.f2, P y) → P x) : ∀ x, P x
  | ⟨x0, x1, x2⟩ => h _ (fun y hy => indTypeL h y)
termination_by x => SizeOf.sizeOf x
decreasing_by
  have := List.sizeOf_lt_of_mem hy
  simp at this ⊢
  omega
theorem indTypeI {P : S29 → Prop} (h : ∀ x, (∀ y ∈ x.f2, P y) → P x) : ∀ x, P x
  | ⟨x0, x1, x2⟩ => h _ (fun y hy => indTypeI h y)
termination_by x => SizeOf.sizeOf x
decreasing_by
  have := List.sizeOf_lt_of_mem hy
  simp at this ⊢
  omega
inductive SmType : S29 → Prop
  | mk {x : S29} : ((Lit.int .i64 x.f0).wf = true) → ((x.f1.length ≤ 1048576 ∧ ∀ y ∈ x.f1, y.size ≤ 1048576)) → x.f2.length ≤ 1048576 → (∀ y ∈ x.f2, SmType y) → SmType x
theorem SmType.p0 {x : S29} (h : SmType x) : (Lit.int .i64 x.f0).wf = true := by cases h; assumption
theorem SmType.p1 {x : S29} (h : SmType x) : (x.f1.length ≤ 1048576 ∧ ∀ y ∈ x.f1, y.size ≤ 1048576) := by cases h; assumption
theorem SmType.p2 {x : S29} (h : SmType x) : x.f2.length ≤ 1048576 ∧ ∀ y ∈ x.f2, SmType y := by cases h; constructor <;> assumption
theorem etaType (x : S29) : (⟨x.f0, x.f1, x.f2⟩ : S29) = x := by obtain ⟨_, _, _⟩ := x; rfl
theorem smType_of : ∀ x : S25, W25 x → wtType x ≤ 1048576 → SmType (cvType x) := by
  refine indTypeL fun x ih hw hw2 => ?_
  have hb := hw2
  rw [wtType_eq] at hb
  rw [cvType_eq]
  exact SmType.mk (hw.p0) (⟨by (try dsimp only); unfold wts at hb; omega, fun y hy => by (try dsimp only at hy); have := sum_le_of_mem ByteArray.size hy; unfold wts szs at hb; omega⟩) (by (try dsimp only); rw [cvTypeS_map, List.length_map]; omega) (fun z hz => by
      (try dsimp only at hz)
      rw [cvTypeS_map] at hz
      obtain ⟨y, hy, rfl⟩ := List.mem_map.1 hz
      exact ih y hy (hw.p2.2 y hy) (by have := sum_le_of_mem wtType hy; rw [← wtTypeS_sum] at this; omega))
theorem szTypeS_of (xs : List S25) (hx : xs.length ≤ maxLen) (h : ∀ y ∈ xs, ∀ left : Int, 0 ≤ left → left ≤ 1048576 → Ev (fun k => laws_szType.f k (y.f0) (y.f1) (y.f2) left) (cut (wtType y) left)) (left : Int) (h0 : 0 ≤ left) (hl : left ≤ 1048576) : Ev (fun k => laws_szTypeS.f k xs left) (cut (xs.length + wtTypeS xs) left) := by
  refine Ev.up ?_
  simp only [laws_szTypeS.f]
  have hs := cut_sub (n := xs.length) h0 hl hx
  by_cases hc : cut xs.length left < 0
  · exact Ev.pos (hs.1.2 hc) (Ev.const (cut_add' hc).symm)
  · refine Ev.neg (fun h => hc (hs.1.1 h)) ?_
    rw [hs.2 (by omega)]
    have hl2 := cut_le (n := xs.length) h0
    have hw := sz_loop xs.length (fun k i left => laws_szType.f k ((rd_T25 xs (i : Int)).f0) ((rd_T25 xs (i : Int)).f1) ((rd_T25 xs (i : Int)).f2) left) (fun k left i => laws_szTypeS.l0 k xs left (i : Int)) (fun i => wtType (xs.getD i z25)) (fun k left i hi => by
      simp only [laws_szTypeS.l0]
      rw [if_pos (by omega), if_pos (by omega), w1 hi hx]) (fun k left => by simp only [laws_szTypeS.l0]; rw [if_neg (by omega)]) (fun i left hi h0 hl => h _ (mem_getD xs z25 i hi) left h0 hl) xs.length 0 _ (by omega) (show 0 ≤ cut xs.length left by omega) (by omega)
    refine Ev.eq hw ?_
    rw [cut_add (by omega), sumF_list wtType z25 xs xs.length 0 (by omega), wtTypeS_sum]
    rfl
theorem szType_ev : ∀ x : S25, W25 x → ∀ left : Int, 0 ≤ left → left ≤ 1048576 → Ev (fun k => laws_szType.f k (x.f0) (x.f1) (x.f2) left) (cut (wtType x) left) := by
  refine indTypeL fun x ih hw left h0 hl => ?_
  refine Ev.up ?_
  simp only [laws_szType.f]
  rw [wtType_eq]
  have hb0 : (0 : Int) ≤ left ∧ left ≤ 1048576 := ⟨h0, hl⟩
  refine Ev.bind (szStringS_ev x.f1 hw.p1 _ hb0.1 hb0.2) ?_
  by_cases hc0 : cut (wts x.f1) left < 0
  · refine Ev.pos hc0 (Ev.const ?_)
    have hn : cut (wts x.f1) left < 0 := hc0
    have hn : cut (wts x.f1 + (x.f2.length + wtTypeS x.f2)) left < 0 := by rw [cut_add' hn]; omega
    have hv := cut_neg.1 hn; unfold cut; rw [if_neg hv]
  refine Ev.neg hc0 ?_
  have hb1 : (0 : Int) ≤ cut (wts x.f1) left ∧ cut (wts x.f1) left ≤ 1048576 := ⟨by omega, by have := cut_le (n := wts x.f1) h0; omega⟩
  refine Ev.bind (szTypeS_of x.f2 hw.p2.1 (fun y hy => ih y hy (hw.p2.2 y hy)) _ hb1.1 hb1.2) ?_
  by_cases hc1 : cut ((x.f2.length + wtTypeS x.f2)) (cut (wts x.f1) left) < 0
  · refine Ev.pos hc1 (Ev.const ?_)
    have hn : cut (wts x.f1 + (x.f2.length + wtTypeS x.f2)) left < 0 := by rw [← cut_add (by omega)]; exact hc1
    have hv := cut_neg.1 hn; unfold cut; rw [if_neg hv]
  refine Ev.neg hc1 ?_
  rw [cut_add (by omega)] at hc1 ⊢
  have hb2 : (0 : Int) ≤ cut (wts x.f1 + (x.f2.length + wtTypeS x.f2)) left ∧ cut (wts x.f1 + (x.f2.length + wtTypeS x.f2)) left ≤ 1048576 := ⟨by omega, by have := cut_le (n := wts x.f1 + (x.f2.length + wtTypeS x.f2)) h0; omega⟩
  exact Ev.const rfl
theorem toTypeS_of (xs : List S25) (hx : xs.length ≤ 1048576) (h : ∀ y ∈ xs, Ev (fun k => laws_toType.f k (y.f0) (y.f1) (y.f2)) ((cvType y).f0, (cvType y).f1, (cvType y).f2)) : Ev (fun k => laws_toTypeS.f k xs) (cvTypeS xs) := by
  refine Ev.up ?_
  simp only [laws_toTypeS.f]
  refine Ev.pos (by omega) (Ev.pos (by omega) ?_)
  have hw := to_loop xs.length (fun k i => (laws_toType.f k ((rd_T25 xs (i : Int)).f0) ((rd_T25 xs (i : Int)).f1) ((rd_T25 xs (i : Int)).f2)).map fun t => (⟨t.1, t.2.1, t.2.2⟩ : S29)) (fun k out i => laws_toTypeS.l0 k xs out (i : Int)) (fun i => cvType (xs.getD i z25)) (fun k out i hi hl => by
    simp only [laws_toTypeS.l0]
    rw [if_pos (by omega), if_pos (by omega)]
    rcases laws_toType.f k ((rd_T25 xs (i : Int)).f0) ((rd_T25 xs (i : Int)).f1) ((rd_T25 xs (i : Int)).f2) with _ | t
    · rfl
    · simp only [Option.map_some, Option.bind_some]
      rw [if_pos (by omega), w1' hi hx]
      rfl) (fun k out => by simp only [laws_toTypeS.l0]; rw [if_neg (by omega)]) (fun i hi => Ev.eq (Ev.map (fun t => (⟨t.1, t.2.1, t.2.2⟩ : S29)) (h _ (mem_getD xs z25 i hi))) (etaType _)) xs.length 0 (List.replicate ((xs.length : Int)).toNat z29) (by omega) (by simp)
  refine Ev.eq hw ?_
  rw [List.take_zero, List.nil_append, range_map_getElem cvType z25 xs, cvTypeS_map]
theorem toType_ev : ∀ x : S25, wtType x ≤ 1048576 → Ev (fun k => laws_toType.f k (x.f0) (x.f1) (x.f2)) ((cvType x).f0, (cvType x).f1, (cvType x).f2) := by
  refine indTypeL fun x ih hw2 => ?_
  refine Ev.up ?_
  simp only [laws_toType.f]
  have hb := hw2
  rw [wtType_eq] at hb
  refine Ev.bind (toStringS_ev x.f1 (by unfold wts at hb; omega)) ?_
  refine Ev.bind (toTypeS_of x.f2 (by omega) (fun y hy => ih y hy (by have := sum_le_of_mem wtType hy; rw [← wtTypeS_sum] at this; omega))) ?_
  exact Ev.const (by rw [cvType_eq])
theorem eqTypeS_of (xs : List S29) (hx : xs.length ≤ 1048576) (h : ∀ y ∈ xs, Ev (fun k => laws_eqType.f k (y.f0) (y.f1) (y.f2) (y.f0) (y.f1) (y.f2)) true) : Ev (fun k => laws_eqTypeS.f k xs xs) true := by
  refine Ev.up ?_
  simp only [laws_eqTypeS.f]
  refine Ev.pos (by simp) ?_
  exact eq_loop xs.length (fun k i => laws_eqType.f k ((rd_T29 xs (i : Int)).f0) ((rd_T29 xs (i : Int)).f1) ((rd_T29 xs (i : Int)).f2) ((rd_T29 xs (i : Int)).f0) ((rd_T29 xs (i : Int)).f1) ((rd_T29 xs (i : Int)).f2)) (fun k i => laws_eqTypeS.l0 k xs xs (i : Int)) (fun k i hi => by
    simp only [laws_eqTypeS.l0]
    rw [if_pos (by omega), if_pos (by omega), if_pos (by omega), w1' hi hx]) (fun k => by simp only [laws_eqTypeS.l0]; rw [if_neg (by omega)]) (fun i hi => h _ (mem_getD xs z29 i hi)) xs.length 0 (by omega)
theorem eqType_ev : ∀ x : S29, SmType x → Ev (fun k => laws_eqType.f k (x.f0) (x.f1) (x.f2) (x.f0) (x.f1) (x.f2)) true := by
  refine indTypeI fun x ih hs => ?_
  refine Ev.up ?_
  simp only [laws_eqType.f]
  refine Ev.pos (by simp) ?_
  refine Ev.bind (eqStringS_ev x.f1 hs.p1.1) (Ev.pos (by simp) ?_)
  refine Ev.bind (eqTypeS_of x.f2 hs.p2.1 (fun y hy => ih y hy (hs.p2.2 y hy))) (Ev.pos (by simp) ?_)
  exact Ev.now _
end Go.Proofs.Ytcgdaeaaimkhdaa.Py
end
section
namespace Go.Proofs.Ytcgdaeaaimkhdaa.Py
open Go.RowKit Go.Proofs.YtcgdaeaaimkhdaaW.PrintWords Go.Proofs.Ytcgdaeaaimkhdaa.Pl
set_option linter.unusedVariables false
set_option linter.unusedSimpArgs false
def wtTableDecl : S136 → Nat
  | ⟨x0, x1⟩ => x0.size + wtType x1
def wtTableDeclS : List S136 → Nat
  | [] => 0
  | x :: r => wtTableDecl x + wtTableDeclS r
def cvTableDecl : S136 → S102
  | ⟨x0, x1⟩ => ⟨x0, (cvType x1)⟩
def cvTableDeclS : List S136 → List S102
  | [] => []
  | x :: r => cvTableDecl x :: cvTableDeclS r
theorem wtTableDeclS_sum (xs : List S136) : wtTableDeclS xs = (xs.map wtTableDecl).sum := by
  induction xs with
  | nil => rfl
  | cons x r ih => simp [wtTableDeclS, ih]
theorem cvTableDeclS_map (xs : List S136) : cvTableDeclS xs = xs.map cvTableDecl := by
  induction xs with
  | nil => rfl
  | cons x r ih => simp [cvTableDeclS, ih]
theorem wtTableDecl_eq (x : S136) : wtTableDecl x = x.f0.size + wtType x.f1 := by cases x; simp only [wtTableDecl]
theorem cvTableDecl_eq (x : S136) : cvTableDecl x = ⟨x.f0, (cvType x.f1)⟩ := by cases x; simp only [cvTableDecl]
def SmTableDecl (x : S102) : Prop := (x.f0.size ≤ 1048576) ∧ (SmType x.f1)
theorem SmTableDecl.p0 {x : S102} (h : SmTableDecl x) : x.f0.size ≤ 1048576 := h.1
theorem SmTableDecl.p1 {x : S102} (h : SmTableDecl x) : SmType x.f1 := h.2
theorem etaTableDecl (x : S102) : (⟨x.f0, (⟨x.f1.f0, x.f1.f1, x.f1.f2⟩ : S29)⟩ : S102) = x := by obtain ⟨_, ⟨_, _, _⟩⟩ := x; rfl
theorem smTableDecl_of (x : S136) (hw : W136 x) (hw2 : wtTableDecl x ≤ 1048576) : SmTableDecl (cvTableDecl x) := by
  have hb := hw2
  rw [wtTableDecl_eq] at hb
  rw [cvTableDecl_eq]
  exact ⟨by (try dsimp only); omega, smType_of _ hw.2 (by omega)⟩
theorem szTableDeclS_of (xs : List S136) (hx : xs.length ≤ maxLen) (h : ∀ y ∈ xs, ∀ left : Int, 0 ≤ left → left ≤ 1048576 → Ev (fun k => laws_szTableDecl.f k (y.f0) (y.f1.f0) (y.f1.f1) (y.f1.f2) left) (cut (wtTableDecl y) left)) (left : Int) (h0 : 0 ≤ left) (hl : left ≤ 1048576) : Ev (fun k => laws_szTableDeclS.f k xs left) (cut (xs.length + wtTableDeclS xs) left) := by
  simp only [laws_szTableDeclS.f]
  have hs := cut_sub (n := xs.length) h0 hl hx
  by_cases hc : cut xs.length left < 0
  · exact Ev.pos (hs.1.2 hc) (Ev.const (cut_add' hc).symm)
  · refine Ev.neg (fun h => hc (hs.1.1 h)) ?_
    rw [hs.2 (by omega)]
    have hl2 := cut_le (n := xs.length) h0
    have hw := sz_loop xs.length (fun k i left => laws_szTableDecl.f k ((rd_T136 xs (i : Int)).f0) ((rd_T136 xs (i : Int)).f1.f0) ((rd_T136 xs (i : Int)).f1.f1) ((rd_T136 xs (i : Int)).f1.f2) left) (fun k left i => laws_szTableDeclS.l0 k xs left (i : Int)) (fun i => wtTableDecl (xs.getD i z136)) (fun k left i hi => by
      simp only [laws_szTableDeclS.l0]
      rw [if_pos (by omega), if_pos (by omega), w1 hi hx]) (fun k left => by simp only [laws_szTableDeclS.l0]; rw [if_neg (by omega)]) (fun i left hi h0 hl => h _ (mem_getD xs z136 i hi) left h0 hl) xs.length 0 _ (by omega) (show 0 ≤ cut xs.length left by omega) (by omega)
    refine Ev.eq hw ?_
    rw [cut_add (by omega), sumF_list wtTableDecl z136 xs xs.length 0 (by omega), wtTableDeclS_sum]
    rfl
theorem szTableDecl_ev : ∀ x : S136, W136 x → ∀ left : Int, 0 ≤ left → left ≤ 1048576 → Ev (fun k => laws_szTableDecl.f k (x.f0) (x.f1.f0) (x.f1.f1) (x.f1.f2) left) (cut (wtTableDecl x) left) := by
  intro x hw left h0 hl
  simp only [laws_szTableDecl.f]
  rw [wtTableDecl_eq]
  have hb0 : (0 : Int) ≤ left ∧ left ≤ 1048576 := ⟨h0, hl⟩
  have hs0 := cut_sub (n := x.f0.size) hb0.1 hb0.2 (hw.1)
  by_cases hc0 : cut (x.f0.size) left < 0
  · refine Ev.pos (hs0.1.2 hc0) (Ev.const ?_)
    have hn : cut (x.f0.size) left < 0 := hc0
    have hn : cut (x.f0.size + wtType x.f1) left < 0 := by rw [cut_add' hn]; omega
    have hv := cut_neg.1 hn; unfold cut; rw [if_neg hv]
  refine Ev.neg (fun h => hc0 (hs0.1.1 h)) ?_
  rw [hs0.2 (by omega)]
  have hb1 : (0 : Int) ≤ cut (x.f0.size) left ∧ cut (x.f0.size) left ≤ 1048576 := ⟨by omega, by have := cut_le (n := x.f0.size) h0; omega⟩
  refine Ev.bind (szType_ev x.f1 hw.2 _ hb1.1 hb1.2) ?_
  by_cases hc1 : cut (wtType x.f1) (cut (x.f0.size) left) < 0
  · refine Ev.pos hc1 (Ev.const ?_)
    have hn : cut (x.f0.size + wtType x.f1) left < 0 := by rw [← cut_add (by omega)]; exact hc1
    have hv := cut_neg.1 hn; unfold cut; rw [if_neg hv]
  refine Ev.neg hc1 ?_
  rw [cut_add (by omega)] at hc1 ⊢
  have hb2 : (0 : Int) ≤ cut (x.f0.size + wtType x.f1) left ∧ cut (x.f0.size + wtType x.f1) left ≤ 1048576 := ⟨by omega, by have := cut_le (n := x.f0.size + wtType x.f1) h0; omega⟩
  exact Ev.const rfl
theorem toTableDeclS_of (xs : List S136) (hx : xs.length ≤ 1048576) (h : ∀ y ∈ xs, Ev (fun k => laws_toTableDecl.f k (y.f0) (y.f1.f0) (y.f1.f1) (y.f1.f2)) ((cvTableDecl y).f0, (cvTableDecl y).f1.f0, (cvTableDecl y).f1.f1, (cvTableDecl y).f1.f2)) : Ev (fun k => laws_toTableDeclS.f k xs) (cvTableDeclS xs) := by
  simp only [laws_toTableDeclS.f]
  refine Ev.pos (by omega) (Ev.pos (by omega) ?_)
  have hw := to_loop xs.length (fun k i => (laws_toTableDecl.f k ((rd_T136 xs (i : Int)).f0) ((rd_T136 xs (i : Int)).f1.f0) ((rd_T136 xs (i : Int)).f1.f1) ((rd_T136 xs (i : Int)).f1.f2)).map fun t => (⟨t.1, (⟨t.2.1, t.2.2.1, t.2.2.2⟩ : S29)⟩ : S102)) (fun k out i => laws_toTableDeclS.l0 k xs out (i : Int)) (fun i => cvTableDecl (xs.getD i z136)) (fun k out i hi hl => by
    simp only [laws_toTableDeclS.l0]
    rw [if_pos (by omega), if_pos (by omega)]
    rcases laws_toTableDecl.f k ((rd_T136 xs (i : Int)).f0) ((rd_T136 xs (i : Int)).f1.f0) ((rd_T136 xs (i : Int)).f1.f1) ((rd_T136 xs (i : Int)).f1.f2) with _ | t
    · rfl
    · simp only [Option.map_some, Option.bind_some]
      rw [if_pos (by omega), w1' hi hx]
      rfl) (fun k out => by simp only [laws_toTableDeclS.l0]; rw [if_neg (by omega)]) (fun i hi => Ev.eq (Ev.map (fun t => (⟨t.1, (⟨t.2.1, t.2.2.1, t.2.2.2⟩ : S29)⟩ : S102)) (h _ (mem_getD xs z136 i hi))) (etaTableDecl _)) xs.length 0 (List.replicate ((xs.length : Int)).toNat z102) (by omega) (by simp)
  refine Ev.eq hw ?_
  rw [List.take_zero, List.nil_append, range_map_getElem cvTableDecl z136 xs, cvTableDeclS_map]
theorem toTableDecl_ev : ∀ x : S136, wtTableDecl x ≤ 1048576 → Ev (fun k => laws_toTableDecl.f k (x.f0) (x.f1.f0) (x.f1.f1) (x.f1.f2)) ((cvTableDecl x).f0, (cvTableDecl x).f1.f0, (cvTableDecl x).f1.f1, (cvTableDecl x).f1.f2) := by
  intro x hw2
  simp only [laws_toTableDecl.f]
  have hb := hw2
  rw [wtTableDecl_eq] at hb
  refine Ev.bind (toType_ev x.f1 (by omega)) ?_
  exact Ev.const (by rw [cvTableDecl_eq])
theorem eqTableDeclS_of (xs : List S102) (hx : xs.length ≤ 1048576) (h : ∀ y ∈ xs, Ev (fun k => laws_eqTableDecl.f k (y.f0) (y.f1.f0) (y.f1.f1) (y.f1.f2) (y.f0) (y.f1.f0) (y.f1.f1) (y.f1.f2)) true) : Ev (fun k => laws_eqTableDeclS.f k xs xs) true := by
  simp only [laws_eqTableDeclS.f]
  refine Ev.pos (by simp) ?_
  exact eq_loop xs.length (fun k i => laws_eqTableDecl.f k ((rd_T102 xs (i : Int)).f0) ((rd_T102 xs (i : Int)).f1.f0) ((rd_T102 xs (i : Int)).f1.f1) ((rd_T102 xs (i : Int)).f1.f2) ((rd_T102 xs (i : Int)).f0) ((rd_T102 xs (i : Int)).f1.f0) ((rd_T102 xs (i : Int)).f1.f1) ((rd_T102 xs (i : Int)).f1.f2)) (fun k i => laws_eqTableDeclS.l0 k xs xs (i : Int)) (fun k i hi => by
    simp only [laws_eqTableDeclS.l0]
    rw [if_pos (by omega), if_pos (by omega), if_pos (by omega), w1' hi hx]) (fun k => by simp only [laws_eqTableDeclS.l0]; rw [if_neg (by omega)]) (fun i hi => h _ (mem_getD xs z102 i hi)) xs.length 0 (by omega)
theorem eqTableDecl_ev : ∀ x : S102, SmTableDecl x → Ev (fun k => laws_eqTableDecl.f k (x.f0) (x.f1.f0) (x.f1.f1) (x.f1.f2) (x.f0) (x.f1.f0) (x.f1.f1) (x.f1.f2)) true := by
  intro x hs
  simp only [laws_eqTableDecl.f]
  refine Ev.pos (by simp) ?_
  refine Ev.bind (eqType_ev x.f1 hs.p1) (Ev.pos (by simp) ?_)
  exact Ev.now _
end Go.Proofs.Ytcgdaeaaimkhdaa.Py
end
section
namespace Go.Proofs.Ytcgdaeaaimkhdaa.Py
open Go.RowKit Go.Proofs.YtcgdaeaaimkhdaaW.PrintWords Go.Proofs.Ytcgdaeaaimkhdaa.Pl
set_option linter.unusedVariables false
set_option linter.unusedSimpArgs false
def wtSchema : S38 → Nat
  | ⟨x0⟩ => (x0.length + wtTableDeclS x0)
def cvSchema : S38 → S43
  | ⟨x0⟩ => ⟨(cvTableDeclS x0)⟩
theorem wtSchema_eq (x : S38) : wtSchema x = (x.f0.length + wtTableDeclS x.f0) := by cases x; simp only [wtSchema]
theorem cvSchema_eq (x : S38) : cvSchema x = ⟨(cvTableDeclS x.f0)⟩ := by cases x; simp only [cvSchema]
def SmSchema (x : S43) : Prop := ((x.f0.length ≤ 1048576 ∧ ∀ y ∈ x.f0, SmTableDecl y))
theorem SmSchema.p0 {x : S43} (h : SmSchema x) : (x.f0.length ≤ 1048576 ∧ ∀ y ∈ x.f0, SmTableDecl y) := h
theorem smSchema_of (x : S38) (hw : W38 x) (hw2 : wtSchema x ≤ 1048576) : SmSchema (cvSchema x) := by
  have hb := hw2
  rw [wtSchema_eq] at hb
  rw [cvSchema_eq]
  exact ⟨by (try dsimp only); rw [cvTableDeclS_map, List.length_map]; omega, fun z hz => by
      (try dsimp only at hz)
      rw [cvTableDeclS_map] at hz
      obtain ⟨y, hy, rfl⟩ := List.mem_map.1 hz
      exact smTableDecl_of y (hw.2 y hy) (by have := sum_le_of_mem wtTableDecl hy; rw [← wtTableDeclS_sum] at this; omega)⟩
theorem szSchema_ev : ∀ x : S38, W38 x → ∀ left : Int, 0 ≤ left → left ≤ 1048576 → Ev (fun k => laws_szSchema.f k (x.f0) left) (cut (wtSchema x) left) := by
  intro x hw left h0 hl
  simp only [laws_szSchema.f]
  rw [wtSchema_eq]
  have hb0 : (0 : Int) ≤ left ∧ left ≤ 1048576 := ⟨h0, hl⟩
  refine Ev.bind (szTableDeclS_of x.f0 hw.1 (fun y hy => szTableDecl_ev y (hw.2 y hy)) _ hb0.1 hb0.2) ?_
  by_cases hc0 : cut ((x.f0.length + wtTableDeclS x.f0)) left < 0
  · refine Ev.pos hc0 (Ev.const ?_)
    have hn : cut ((x.f0.length + wtTableDeclS x.f0)) left < 0 := hc0
    have hv := cut_neg.1 hn; unfold cut; rw [if_neg hv]
  refine Ev.neg hc0 ?_
  have hb1 : (0 : Int) ≤ cut ((x.f0.length + wtTableDeclS x.f0)) left ∧ cut ((x.f0.length + wtTableDeclS x.f0)) left ≤ 1048576 := ⟨by omega, by have := cut_le (n := (x.f0.length + wtTableDeclS x.f0)) h0; omega⟩
  exact Ev.const rfl
theorem toSchema_ev : ∀ x : S38, wtSchema x ≤ 1048576 → Ev (fun k => laws_toSchema.f k (x.f0)) (cvSchema x).f0 := by
  intro x hw2
  simp only [laws_toSchema.f]
  have hb := hw2
  rw [wtSchema_eq] at hb
  refine Ev.bind (toTableDeclS_of x.f0 (by omega) (fun y hy => toTableDecl_ev y (by have := sum_le_of_mem wtTableDecl hy; rw [← wtTableDeclS_sum] at this; omega))) ?_
  exact Ev.const (by rw [cvSchema_eq])
theorem eqSchema_ev : ∀ x : S43, SmSchema x → Ev (fun k => laws_eqSchema.f k (x.f0) (x.f0)) true := by
  intro x hs
  simp only [laws_eqSchema.f]
  refine Ev.bind (eqTableDeclS_of x.f0 hs.p0.1 (fun y hy => eqTableDecl_ev y (hs.p0.2 y hy))) (Ev.pos (by simp) ?_)
  exact Ev.now _
end Go.Proofs.Ytcgdaeaaimkhdaa.Py
end
section
namespace Go.Proofs.Ytcgdaeaaimkhdaa.Py
open Go.RowKit Go.Proofs.YtcgdaeaaimkhdaaW.PrintWords Go.Proofs.YtcgdaeaaimkhdaaW.PrintLast Go.Proofs.Ytcgdaeaaimkhdaa.Pl Go.Proofs.Ytcgdaeaaimkhdaa.Ext
set_option linter.unusedVariables false
set_option linter.unusedSimpArgs false
theorem strOne (n : Int) : (strOfNums [n]).size = 1 := by simp [strOfNums]; rfl
theorem markLoop_ex : ∀ (m : Nat) (x : Int) (s : ByteArray), 0 ≤ x → x ≤ 4611686018427387904 → x < (10 : Int) ^ m → s.size + m ≤ 1000 → ∃ r, Ev (fun k => laws_markText.l0 k x s) r := by
  intro m
  induction m with
  | zero =>
    intro x s h0 hb h1 hs
    refine ⟨(⟨#[109]⟩ : ByteArray) ++ s, Ev.up ?_⟩
    simp only [laws_markText.l0]
    exact Ev.neg (by simp at h1; omega) (Ev.pos (by omega) (Ev.now _))
  | succ m ih =>
    intro x s h0 hb h1 hs
    by_cases hx : x > 0
    · have ht : Int.tdiv x 10 = x / 10 := Int.tdiv_eq_ediv_of_nonneg h0
      have hw : wrap64 (Int.tdiv x 10) = x / 10 := by rw [ht]; exact w64 (by omega) (by omega)
      have hl : x / 10 < (10 : Int) ^ m := by
        rw [Int.pow_succ] at h1
        omega
      obtain ⟨r, hr⟩ := ih (x / 10) (strOfNums [(wrap64 (48 + (Int.tmod x 10))) % 256] ++ s) (by omega) (by omega) hl (by rw [ByteArray.size_append, strOne]; omega)
      refine ⟨r, Ev.up ?_⟩
      simp only [laws_markText.l0]
      refine Ev.pos hx ?_
      refine Ev.none_bind (Ev.pos (by rw [strOne]; omega) ?_)
      rw [hw]
      exact hr
    · refine ⟨(⟨#[109]⟩ : ByteArray) ++ s, Ev.up ?_⟩
      simp only [laws_markText.l0]
      exact Ev.neg hx (Ev.pos (by omega) (Ev.now _))
theorem markText_ex (a : Int) (hb : a ≤ 4611686018427387904) : ∃ r, Ev (fun k => laws_markText.f k a) r := by
  by_cases h : a ≤ 0
  · refine ⟨(⟨#[109, 48]⟩ : ByteArray), ?_⟩
    simp only [laws_markText.f]
    exact Ev.pos h (Ev.now _)
  · obtain ⟨r, hr⟩ := markLoop_ex 19 a ⟨#[]⟩ (by omega) hb (by omega) (by decide)
    refine ⟨r, ?_⟩
    simp only [laws_markText.f]
    exact Ev.neg h hr
open Classical in
/-- The text that marks k. -/
noncomputable def mt (a : Int) : ByteArray := if h : ∃ r, Ev (fun k => laws_markText.f k a) r then h.choose else ⟨#[]⟩
theorem mt_ev (a : Int) (hb : a ≤ 4611686018427387904) : Ev (fun k => laws_markText.f k a) (mt a) := by
  have h := markText_ex a hb
  unfold mt
  rw [dif_pos h]
  exact h.choose_spec
noncomputable def mtS (a : Int) : Nat → List ByteArray
  | 0 => []
  | n + 1 => mt a :: mtS (a + 1) n
theorem mtS_length : ∀ (n : Nat) (a : Int), (mtS a n).length = n
  | 0, _ => rfl
  | n + 1, a => by simp [mtS, mtS_length n]
theorem markLoopS_ev (xs : List ByteArray) (hx : xs.length ≤ 1048576) : ∀ (m i : Nat) (out : List ByteArray) (a : Int), i + m = xs.length → out.length = xs.length → 0 ≤ a → a + m ≤ 4611686018427387904 →
    Ev (fun k => laws_markStringS.l0 k out a (i : Int)) (a + m, out.take i ++ mtS a m) := by
  intro m
  induction m with
  | zero =>
    intro i out a hi hl h0 hb
    refine Ev.up ?_
    simp only [laws_markStringS.l0]
    refine Ev.neg (by omega) (Ev.const ?_)
    rw [List.take_of_length_le (by omega)]
    simp [mtS]
  | succ m ih =>
    intro i out a hi hl h0 hb
    refine Ev.up ?_
    simp only [laws_markStringS.l0]
    refine Ev.pos (by omega) (Ev.bind (mt_ev a (by omega)) (Ev.pos (by omega) ?_))
    rw [w1' (show i < xs.length by omega) hx, show wrap64 (a + 1) = a + 1 from w64 (by omega) (by omega)]
    refine Ev.eq (ih (i + 1) (out.set i (mt a)) (a + 1) (by omega) (by simpa using hl) (by omega) (by omega)) ?_
    rw [List.take_succ_eq_append_getElem (by simp; omega)]
    simp only [List.getElem_set_self, List.take_set_of_le (Nat.le_refl i), mtS, List.append_assoc, List.singleton_append, Prod.mk.injEq, and_true]
    omega
theorem markStringS_ev (xs : List ByteArray) (hx : xs.length ≤ 1048576) (a : Int) (h0 : 0 ≤ a) (hb : a + xs.length ≤ 4611686018427387904) : Ev (fun k => laws_markStringS.f k xs a) (a + xs.length, mtS a xs.length) := by
  simp only [laws_markStringS.f]
  simpa using markLoopS_ev xs hx xs.length 0 xs a (by omega) rfl h0 hb
theorem mtS_getD (d : ByteArray) : ∀ (n i : Nat) (a : Int), i < n → (mtS a n).getD i d = mt (a + i)
  | 0, i, _, h => by omega
  | n + 1, 0, a, _ => by simp [mtS]
  | n + 1, i + 1, a, h => by
    have := mtS_getD d n i (a + 1) (by omega)
    simp only [mtS, List.getD_cons_succ, this]
    congr 1
    omega
theorem heldStringS_ev (n : Nat) (hn : n ≤ 1048576) (a : Int) (h0 : 0 ≤ a) (hb : a + n ≤ 4611686018427387904) : Ev (fun k => laws_heldStringS.f k (mtS a n) a) (a + n) := by
  suffices h : ∀ (m i : Nat), i + m = n → Ev (fun k => laws_heldStringS.l0 k (mtS a n) (a + i) (i : Int)) (a + n) by
    simp only [laws_heldStringS.f]
    simpa using h n 0 (by omega)
  intro m
  induction m with
  | zero =>
    intro i hi
    refine Ev.up ?_
    simp only [laws_heldStringS.l0, mtS_length]
    exact Ev.neg (by omega) (Ev.const (by omega))
  | succ m ih =>
    intro i hi
    refine Ev.up ?_
    simp only [laws_heldStringS.l0, mtS_length]
    refine Ev.pos (by omega) (Ev.pos (by omega) (Ev.bind (mt_ev (a + i) (by omega)) (Ev.pos ?_ ?_)))
    · rw [rdOf_str, mtS_getD _ n i a (by omega)]
    · rw [w1' (show i < n by omega) hn, show wrap64 (a + i + 1) = a + ((i + 1 : Nat) : Int) from by rw [w64 (by omega) (by omega)]; omega]
      exact ih (i + 1) (by omega)
/-- markStringS at a row that it is given to write. -/
theorem markStringS_own (xs : List ByteArray) (hx : xs.length ≤ 1048576) (a : Int) (h0 : 0 ≤ a) (hb : a + xs.length ≤ 4611686018427387904) (v : Value) (ok : Nat → Prop) (w0 w : World) (hB : Below w0.heap.size w0 w) (ho : Kd.R Kd.string 9 w w0.heap.size ok v xs) :
    Calls Try.prog 55 #[v, .int .i64 a] w fun e w' => e = .returned (.int .i64 (a + xs.length)) ∧ Kd.R Kd.string 9 w' w0.heap.size ok v (mtS a xs.length) ∧ Below w0.heap.size w0 w' ∧ Kept w w' ok := by
  obtain ⟨K, hK⟩ := markStringS_ev xs hx a h0 hb
  refine (laws_markStringS.calls K ok v xs a _ _ w0 w hB ho (hK K (Nat.le_refl K))).mono ?_
  rintro e w' ⟨he, hr, hb', hk⟩
  exact ⟨he, Kd.R_reok rfl hr ho.1, hb', hk⟩
/-- markText. -/
theorem markText_own (a : Int) (hb : a ≤ 4611686018427387904) (w : World) : Calls Try.prog 101 #[.int .i64 a] w fun e w' => e = .returned (.string (mt a)) ∧ Below w.heap.size w w' := by
  obtain ⟨K, hK⟩ := mt_ev a hb
  exact laws_markText.calls K a _ w (hK K (Nat.le_refl K))

end Go.Proofs.Ytcgdaeaaimkhdaa.Py
end
section
namespace Go.Proofs.Ytcgdaeaaimkhdaa.Py
open Go.RowKit Go.Proofs.YtcgdaeaaimkhdaaW.PrintWords Go.Proofs.YtcgdaeaaimkhdaaW.PrintLast Go.Proofs.Ytcgdaeaaimkhdaa.Pl Go.Proofs.Ytcgdaeaaimkhdaa.Ext
set_option linter.unusedVariables false
set_option linter.unusedSimpArgs false
mutual
def cnType : S29 → Nat
  | ⟨x0, x1, x2⟩ => 1 + x1.length + cnTypeS x2
def cnTypeS : List S29 → Nat
  | [] => 0
  | x :: r => cnType x + cnTypeS r
end
mutual
noncomputable def mkType : S29 → Int → S29
  | ⟨x0, x1, x2⟩, a => ⟨a, mtS (a + 1) x1.length, mkTypeS x2 (a + 1 + (x1.length : Nat))⟩
noncomputable def mkTypeS : List S29 → Int → List S29
  | [], _ => []
  | x :: r, a => mkType x a :: mkTypeS r (a + cnType x)
end
theorem cnType_eq (x : S29) : cnType x = 1 + x.f1.length + cnTypeS x.f2 := by cases x; simp only [cnType]
theorem mkType_eq (x : S29) (a : Int) : mkType x a = ⟨a, mtS (a + 1) x.f1.length, mkTypeS x.f2 (a + 1 + (x.f1.length : Nat))⟩ := by cases x; simp only [mkType]
theorem mkTypeS_length : ∀ (xs : List S29) (a : Int), (mkTypeS xs a).length = xs.length
  | [], _ => rfl
  | x :: r, a => by simp [mkTypeS, mkTypeS_length r]
theorem cnTypeS_append : ∀ xs ys : List S29, cnTypeS (xs ++ ys) = cnTypeS xs + cnTypeS ys
  | [], ys => by simp [cnTypeS]
  | x :: r, ys => by simp only [List.cons_append, cnTypeS, cnTypeS_append r ys]; omega
theorem mkTypeS_append : ∀ (xs ys : List S29) (a : Int), mkTypeS (xs ++ ys) a = mkTypeS xs a ++ mkTypeS ys (a + cnTypeS xs)
  | [], ys, a => by simp [mkTypeS, cnTypeS]
  | x :: r, ys, a => by
    simp only [List.cons_append, mkTypeS, mkTypeS_append r ys, cnTypeS]
    rw [show a + cnType x + (cnTypeS r : Int) = a + ((cnType x + cnTypeS r : Nat) : Int) by omega]
theorem cnTypeS_take (xs : List S29) (i : Nat) (h : i < xs.length) : cnTypeS (xs.take (i + 1)) = cnTypeS (xs.take i) + cnType (xs.getD i z29) := by
  rw [List.take_succ_eq_append_getElem h, cnTypeS_append]
  simp [cnTypeS, List.getD_eq_getElem?_getD, h]
theorem cnTypeS_take_le (xs : List S29) (i : Nat) : cnTypeS (xs.take i) ≤ cnTypeS xs := by
  have := cnTypeS_append (xs.take i) (xs.drop i)
  rw [List.take_append_drop] at this
  omega
theorem mkTypeS_step (xs : List S29) (i : Nat) (h : i < xs.length) (a : Int) : (mkTypeS (xs.take i) a ++ xs.drop i).set i (mkType (xs.getD i z29) (a + cnTypeS (xs.take i))) = mkTypeS (xs.take (i + 1)) a ++ xs.drop (i + 1) := by
  have hl : (mkTypeS (xs.take i) a).length = i := by rw [mkTypeS_length, List.length_take]; omega
  rw [List.set_append, if_neg (by omega), hl, Nat.sub_self, List.drop_eq_getElem_cons h, List.set_cons_zero, List.take_succ_eq_append_getElem h, mkTypeS_append]
  simp [mkTypeS, List.getD_eq_getElem?_getD, h]
theorem mkTypeS_at (xs : List S29) (i : Nat) (h : i < xs.length) (a : Int) : (mkTypeS (xs.take i) a ++ xs.drop i).getD i z29 = xs.getD i z29 := by
  have hl : (mkTypeS (xs.take i) a).length = i := by rw [mkTypeS_length, List.length_take]; omega
  rw [List.getD_eq_getElem?_getD, List.getElem?_append_right (by omega), hl, Nat.sub_self, List.getElem?_drop, Nat.add_zero, List.getD_eq_getElem?_getD]
theorem mkTypeS_len (xs : List S29) (i : Nat) (a : Int) : (mkTypeS (xs.take i) a ++ xs.drop i).length = xs.length := by
  rw [List.length_append, mkTypeS_length, List.length_take, List.length_drop]; omega
/-- What markTypeS does with the row xs. -/
def MarksTypeS (xs : List S29) : Prop :=
  ∀ (a : Int) (v : Value) (ok : Nat → Prop) (w0 w : World), 0 ≤ a → a + cnTypeS xs ≤ 4611686018427387000 → Below w0.heap.size w0 w → Kd.S k29 29 w w0.heap.size ok v xs →
    Calls Try.prog 70 #[v, .int .i64 a] w fun e w' => e = .returned (.int .i64 (a + cnTypeS xs)) ∧ Kd.S k29 29 w' w0.heap.size ok v (mkTypeS xs a) ∧ Below w0.heap.size w0 w' ∧ Kept w w' ok
theorem MarksTypeS.go {xs : List S29} (h : MarksTypeS xs) (a : Int) (v : Value) (ok : Nat → Prop) (w0 w : World) (h0 : 0 ≤ a) (hb : a + cnTypeS xs ≤ 4611686018427387000) (hB : Below w0.heap.size w0 w) (ho : Kd.S k29 29 w w0.heap.size ok v xs) :
    Calls Try.prog 70 #[v, .int .i64 a] w fun e w' => e = .returned (.int .i64 (a + cnTypeS xs)) ∧ Kd.S k29 29 w' w0.heap.size ok v (mkTypeS xs a) ∧ Below w0.heap.size w0 w' ∧ Kept w w' ok := h a v ok w0 w h0 hb hB ho
set_option maxHeartbeats 8000000 in
set_option maxRecDepth 100000 in
theorem marksTypeS_step (xs : List S29) (hn : xs.length ≤ 1048576) (hx : ∀ y ∈ xs, y.f1.length ≤ 1048576 ∧ MarksTypeS y.f2) : MarksTypeS xs := by
  intro a v ok w0 w h0 hb hB ho
  have HO := Aside0.mk ho
  have HB := Aside0.mk hB
  have HK := Aside0.mk (Kept.refl w ok)
  have HX := Aside0.mk hx
  have HA := Aside0.mk (And.intro h0 (And.intro hb hn))
  clear ho hB hx h0 hb hn
  go_enter Try.func70, Try.ntmps70
  go_wp2
  go_loopg [1, 5] xs.length (fun kq v1 v5 w' => ∃ (b i : Int) (L : List S29), v1 = .int .i64 b ∧ v5 = .int .i64 i ∧ Aside0 (0 ≤ i ∧ i + kq = xs.length ∧ b = a + cnTypeS (xs.take i.toNat)) ∧ Aside0 (L = mkTypeS (xs.take i.toNat) a ++ xs.drop i.toNat) ∧ Aside0 (Kd.S k29 29 w' w0.heap.size ok v L) ∧ Aside0 (Below w0.heap.size w0 w') ∧ Aside0 (Kept w w' ok))
  case atStart => exact ⟨a, 0, xs, rfl, rfl, ⟨by omega, by omega, by simp [cnTypeS]⟩, ⟨by simp [mkTypeS]⟩, HO, HB, HK⟩
  case round =>
    clear HO HB HK
    obtain ⟨b, i, L, rfl, rfl, HI, HLE, HO, HB, HK⟩ := hrel
    obtain ⟨Ao, co, eo⟩ := Kd.S_slice HO.out
    have hlen : L.length = xs.length := by rw [HLE.out]; exact mkTypeS_len xs i.toNat a
    rw [hlen] at eo
    have HL := Aside0.mk hlen
    clear hlen
    subst eo
    by_cases hlt : i < (xs.length : Int)
    · have hd : decide (i < (xs.length : Int)) = true := decide_eq_true hlt
      have hi0 : (0 ≤ i) = True := eq_true HI.out.1
      have hi1 : (i < (xs.length : Int)) = True := eq_true hlt
      have HLT := Aside0.mk (show i.toNat < xs.length by have := HI.out.1; omega)
      obtain ⟨g, cap, eg, gb, gl, HG⟩ := Kd.S_form HO.out (by rw [HL.out]; have := HLT.out; omega)
      rw [HL.out] at eg
      injection eg with ea _ ec
      subst ea ec
      have GB := Aside0.mk gb
      clear gb gl HG
      obtain ⟨oki, c, hcl, hM, hcc, hfr, hoki, hH⟩ := Kd.S_elem HO.out z29 i HI.out.1 (by exact hlt)
      rw [HLE.out, mkTypeS_at xs i.toNat HLT.out a] at hM
      generalize hxe : xs.getD i.toNat z29 = x at hM
      have HXE := Aside0.mk hxe
      have hxm : x ∈ xs := by rw [← hxe]; exact mem_getD xs z29 _ HLT.out
      have HXL := Aside0.mk (HX.out x hxm)
      clear hxe hxm
      obtain ⟨v1, v2, o1, o2, rfl, s1, s2, d12, g1, g2⟩ := k29_openA hM
      have HH := Aside0.mk hH
      have H1 := Aside0.mk g1
      have HS1 := Aside0.mk s1
      have H2 := Aside0.mk g2
      have HS2 := Aside0.mk s2
      have HD := Aside0.mk d12
      have HOK := Aside0.mk (show ok g from (Kd.S_R HO.out).1 g rfl)
      have HOI := Aside0.mk hoki
      have HLT2 := Aside0.mk hlt
      have HE := Aside0.mk (show b + cnType x ≤ a + cnTypeS xs ∧ b = a + cnTypeS (xs.take i.toNat) ∧ 0 ≤ b ∧ 0 ≤ a ∧ a + cnTypeS xs ≤ 4611686018427387000 by
        have e1 := cnTypeS_take xs i.toNat HLT.out
        have e2 := cnTypeS_take_le xs (i.toNat + 1)
        rw [HXE.out] at e1
        have := HI.out; have := HA.out
        refine ⟨by omega, by omega, by omega, by omega, by omega⟩)
      have HW1 := Aside0.mk (show wrap64 (b + 1) = b + 1 by have := HE.out; have := cnType_eq x; unfold wrap64; omega)
      clear hcl hM hcc hfr hoki hH hlt HO s1 g1 s2 g2 d12
      have hx : wr.cell? ⟨g, i.toNat * 3, none⟩ = some (.int .i64 x.f0) := (Ow.H_cells HH.out HI.out.1 HLT2.out).1 0 _ rfl
      have hf : wr.frozen? ⟨g, i.toNat * 3, none⟩ = false := (Ow.H_cells HH.out HI.out.1 HLT2.out).2 0
      go_wp2_with (first
        | ((with_reducible refine gate_store (t := 3) (p := 16) rfl ?_)
           refine store_event (t := 3) (p := 16) (v := ?vo_w3) (w1 := (wr.setCell ⟨g, i.toNat * 3, none⟩ (.int .i64 b))) ?hg ?ho ?hn ?hr ?_; (case ho => rfl); (case hg => rfl); (case hn => rfl); (case hr => first | (go_simp; done) | (go_simp; rfl)); intro w3 hw
           have hseg := Kd.H_seg HH.out HI.out.1 HLT2.out (seg := [.int .i64 b]) (j := 0) (show 0 + 1 ≤ 3 by decide) (fun q hq => by rw [List.mem_singleton.1 hq]; rfl)
           have hg : wr.grownBy w3 (some g) := by rw [hw]; exact hseg.2
           have n0 := (show Kd.H k29 29 w3 w0.heap.size ok (.slice (some ⟨g, 0, none⟩) xs.length co) L i oki [.int .i64 b, v1, v2] by rw [hw]; exact hseg.1)
           have n1 := Kd.R_grown H1.out hg (fun k hk e => (HOI.out k (HS1.out k hk)).2 (by injection e))
           have n2 := Kd.S_grown H2.out hg (fun k hk e => (HOI.out k (HS2.out k hk)).2 (by injection e))
           have n3 := (show Below w0.heap.size w0 w3 by rw [hw]; exact below_set HB.out GB.out)
           have n4 := Kept.of_grown hg HK.out (fun k e => .inl (by injection e with e; exact e ▸ HOK.out))
           clear HH H1 H2 HB HK
           (try clear hx)
           (try clear hf)
           have HH := Aside0.mk n0; have H1 := Aside0.mk n1; have H2 := Aside0.mk n2; have HB := Aside0.mk n3; have HK := Aside0.mk n4
           clear n0 n1 n2 n3 n4
           clear hw hg hseg
           have hx : w3.cell? ⟨g, i.toNat * 3 + 1, none⟩ = some (v1) := (Ow.H_cells HH.out HI.out.1 HLT2.out).1 1 _ rfl)
        | ((with_reducible refine gate_callee (f := 55) rfl ?_)
           refine goesL_ (some 25) rfl rfl Try.func55 (by kernel_rfl) rfl #[v1, .int .i64 (wrap64 (b + 1))] rfl (by (try simp only [List.map_toArray, List.map_cons, List.map_nil]); first | done | rfl) ?_
           (with_reducible refine (markStringS_own x.f1 HXL.out.1 (wrap64 (b + 1)) (by rw [HW1.out]; have := HE.out; omega) (by rw [HW1.out]; have := HE.out; have := cnType_eq x; omega) v1 o1 w0 _ HB.out H1.out).mono ?_)
           rintro e w4 ⟨rfl, hr, hb, hk⟩
           refine ⟨_, rfl, ?_⟩
           have n0 := Kd.H_kept HH.out hk (fun k hk hn h1 => hn (HS1.out k h1))
           have n1 := hr
           have n2 := Kd.S_kept H2.out hk (fun k hk h1 => HD.out k h1 hk)
           have n3 := hb
           have n4 := HK.out.then_ hk (fun k h1 => .inl (HOI.out k (HS1.out k h1)).1)
           clear HH H1 H2 HB HK
           (try clear hx)
           (try clear hf)
           have HH := Aside0.mk n0; have H1 := Aside0.mk n1; have H2 := Aside0.mk n2; have HB := Aside0.mk n3; have HK := Aside0.mk n4
           clear n0 n1 n2 n3 n4
           clear hr hb hk
           have hx : w4.cell? ⟨g, i.toNat * 3 + 2, none⟩ = some (v2) := (Ow.H_cells HH.out HI.out.1 HLT2.out).1 2 _ rfl)
        | ((with_reducible refine gate_callee (f := 70) rfl ?_)
           refine goesL_ (some 32) rfl rfl Try.func70 (by kernel_rfl) rfl #[v2, .int .i64 (wrap64 (b + 1) + (x.f1.length : Nat))] rfl (by (try simp only [List.map_toArray, List.map_cons, List.map_nil]); first | done | rfl) ?_
           (with_reducible refine (MarksTypeS.go HXL.out.2 (wrap64 (b + 1) + (x.f1.length : Nat)) v2 o2 w0 _ (by rw [HW1.out]; have := HE.out; omega) (by rw [HW1.out]; have := HE.out; have := cnType_eq x; omega) HB.out H2.out).mono ?_)
           rintro e w5 ⟨rfl, hr, hb, hk⟩
           refine ⟨_, rfl, ?_⟩
           have n0 := Kd.H_kept HH.out hk (fun k hk hn h1 => hn (HS2.out k h1))
           have n1 := Kd.R_kept H1.out hk (fun k hk h1 => HD.out k hk h1)
           have n2 := hr
           have n3 := hb
           have n4 := HK.out.then_ hk (fun k h1 => .inl (HOI.out k (HS2.out k h1)).1)
           clear HH H1 H2 HB HK
           (try clear hx)
           (try clear hf)
           have HH := Aside0.mk n0; have H1 := Aside0.mk n1; have H2 := Aside0.mk n2; have HB := Aside0.mk n3; have HK := Aside0.mk n4
           clear n0 n1 n2 n3 n4
           clear hr hb hk))
      obtain ⟨k1, rfl⟩ : ∃ m, gk = m + 1 := ⟨gk - 1, by have := HI.out; have := HLT2.out; omega⟩
      go_roundg k1
      case measure => omega
      case rel =>
        have hM2 := k29_mkA _ w0.heap.size oki (⟨b, mtS (wrap64 (b + 1)) x.f1.length, mkTypeS x.f2 (wrap64 (b + 1) + (x.f1.length : Nat))⟩ : S29) (Kd.R_mono H1.out HS1.out) (Kd.S_mono H2.out (fun k hk => ⟨HS2.out k hk, fun e => HD.out k (H1.out.1 k e.symm) hk⟩))
        have hS := Kd.H_back HH.out hM2 (fun _ hk => hk)
        have hz : i.toNat + 1 = (wrap64 (i + 1)).toNat := by have := HI.out; have := HLT2.out; have := HA.out; unfold wrap64; omega
        have hw1 : wrap64 (i + 1) = i + 1 := by have := HI.out; have := HLT2.out; have := HA.out; unfold wrap64; omega
        refine ⟨wrap64 (b + 1) + (x.f1.length : Nat) + (cnTypeS x.f2 : Nat), wrap64 (i + 1), _, rfl, rfl, ⟨by omega, ?_, ?_⟩, ⟨?_⟩, ⟨hS⟩, HB, HK⟩
        · have := HI.out; have := HLT2.out; omega
        · rw [← hz, cnTypeS_take xs i.toNat HLT.out, HXE.out, cnType_eq]; (try simp only [HW1.out]); have := HE.out; omega
        · rw [← hz, ← mkTypeS_step xs i.toNat HLT.out a, HXE.out, mkType_eq, ← HE.out.2.1, HLE.out]; (try simp only [HW1.out])
    · have hd : decide (i < (xs.length : Int)) = false := decide_eq_false hlt
      have HT := Aside0.mk (show i.toNat = xs.length by have := HI.out; omega)
      clear hlt
      go_wp2
      go_ret
      refine ⟨?_, ?_, HB.out, HK.out⟩
      · rw [HI.out.2.2, HT.out, List.take_of_length_le (Nat.le_refl _)]
        rfl
      · have := HO.out
        rw [HLE.out, HT.out, List.take_of_length_le (Nat.le_refl _), List.drop_of_length_le (Nat.le_refl _), List.append_nil] at this
        exact this
/-- All rows inside are short. -/
inductive LnType : S29 → Prop
  | mk {x : S29} : x.f1.length ≤ 1048576 → x.f2.length ≤ 1048576 → (∀ y ∈ x.f2, LnType y) → LnType x
theorem LnType.all {x : S29} (h : LnType x) : x.f1.length ≤ 1048576 ∧ x.f2.length ≤ 1048576 ∧ ∀ y ∈ x.f2, LnType y := by cases h; exact ⟨by assumption, by assumption, by assumption⟩
theorem marksType_in : ∀ x : S29, LnType x → MarksTypeS x.f2 := by
  refine indTypeI fun x ih hx => ?_
  exact marksTypeS_step x.f2 hx.all.2.1 (fun y hy => ⟨(hx.all.2.2 y hy).all.1, ih y hy (hx.all.2.2 y hy)⟩)
theorem marksTypeS (xs : List S29) (hn : xs.length ≤ 1048576) (hx : ∀ y ∈ xs, LnType y) : MarksTypeS xs := marksTypeS_step xs hn (fun y hy => ⟨(hx y hy).all.1, marksType_in y (hx y hy)⟩)
theorem lnType_of : ∀ x : S29, SmType x → LnType x := by
  refine indTypeI fun x ih hx => ?_
  exact LnType.mk hx.p1.1 hx.p2.1 (fun y hy => ih y hy (hx.p2.2 y hy))
theorem cnType_cv : ∀ x : S25, cnType (cvType x) ≤ 1 * (wtType x + 1) := by
  refine indTypeL fun x ih => ?_
  rw [cnType_eq, cvType_eq, wtType_eq]
  have hL : ∀ l : List S25, (∀ y ∈ l, cnType (cvType y) ≤ 1 * (wtType y + 1)) → cnTypeS (l.map cvType) ≤ 1 * (l.length + (l.map wtType).sum) := by
    intro l
    induction l with
    | nil => intro _; simp [cnTypeS]
    | cons y r ih2 =>
      intro h
      have h1 := h y (List.mem_cons_self ..)
      have h2 := ih2 (fun z hz => h z (List.mem_cons_of_mem _ hz))
      simp only [List.map_cons, cnTypeS, List.sum_cons, List.length_cons] at h2 ⊢
      omega
  have := hL x.f2 ih
  (try dsimp only)
  rw [cvTypeS_map, wtTypeS_sum]
  unfold wts
  omega
theorem mkTypeS_getD : ∀ (xs : List S29) (i : Nat) (a : Int), i < xs.length → (mkTypeS xs a).getD i z29 = mkType (xs.getD i z29) (a + cnTypeS (xs.take i))
  | [], i, _, h => absurd h (by simp)
  | x :: r, 0, a, _ => by simp [mkTypeS, cnTypeS]
  | x :: r, i + 1, a, h => by
    have := mkTypeS_getD r i (a + cnType x) (by simpa using h)
    simp only [mkTypeS, List.getD_cons_succ, List.take_succ_cons, cnTypeS, this]
    congr 1
    omega
theorem heldTypeS_step (xs : List S29) (hn : xs.length ≤ 1048576) (hx : ∀ y ∈ xs, y.f1.length ≤ 1048576 ∧ (∀ a : Int, 0 ≤ a → a + cnTypeS y.f2 ≤ 4611686018427387000 → Ev (fun k => laws_heldTypeS.f k (mkTypeS y.f2 a) a) (a + cnTypeS y.f2))) (a : Int) (h0 : 0 ≤ a) (hb : a + cnTypeS xs ≤ 4611686018427387000) : Ev (fun k => laws_heldTypeS.f k (mkTypeS xs a) a) (a + cnTypeS xs) := by
  suffices h : ∀ m i, i + m = xs.length → Ev (fun k => laws_heldTypeS.l0 k (mkTypeS xs a) (a + cnTypeS (xs.take i)) (i : Int)) (a + cnTypeS xs) by
    have := h xs.length 0 (by omega)
    first
    | (refine Ev.up ?_; simp only [laws_heldTypeS.f]; simpa [cnTypeS] using this)
    | (simp only [laws_heldTypeS.f]; simpa [cnTypeS] using this)
  intro m
  induction m with
  | zero =>
    intro i hi
    refine Ev.up ?_
    simp only [laws_heldTypeS.l0, mkTypeS_length]
    refine Ev.neg (by omega) (Ev.const ?_)
    rw [List.take_of_length_le (by omega)]
  | succ m ih =>
    intro i hi
    have hlt : i < xs.length := by omega
    have e1 := cnTypeS_take xs i hlt
    have e2 := cnTypeS_take_le xs (i + 1)
    have hg : rd_T29 (mkTypeS xs a) (i : Int) = mkType (xs.getD i z29) (a + cnTypeS (xs.take i)) := mkTypeS_getD xs i a hlt
    have hh := hx _ (mem_getD xs z29 i hlt)
    have ih2 := ih (i + 1) (by omega)
    rw [e1] at ih2
    generalize xs.getD i z29 = y at hg hh e1 ih2
    have e3 := cnType_eq y
    generalize hbb : a + (cnTypeS (xs.take i) : Int) = b at hg
    have hbe : b + cnType y ≤ a + cnTypeS xs ∧ 0 ≤ b := ⟨by omega, by omega⟩
    refine Ev.up ?_
    simp only [laws_heldTypeS.l0, mkTypeS_length, hg, mkType_eq]
    refine Ev.pos (by omega) (Ev.pos (by omega) ?_)
    have v1 : wrap64 (b + 1) = b + 1 := w64 (by omega) (by omega)
    simp only [v1]
    refine Ev.pos (by first | exact trivial | rfl) ?_
    refine Ev.bind (heldStringS_ev y.f1.length hh.1 (b + 1) (by omega) (by omega)) (Ev.neg (by omega) ?_)
    refine Ev.bind (hh.2 ((b + 1) + (y.f1.length : Nat)) (by omega) (by omega)) (Ev.neg (by omega) ?_)
    rw [w1' hlt hn]
    rw [show b + 1 + (y.f1.length : Nat) + (cnTypeS y.f2 : Nat) = a + ((cnTypeS (xs.take i) + cnType y : Nat) : Int) by omega]
    exact ih2
theorem heldType_in : ∀ x : S29, LnType x → ∀ a : Int, 0 ≤ a → a + cnTypeS x.f2 ≤ 4611686018427387000 → Ev (fun k => laws_heldTypeS.f k (mkTypeS x.f2 a) a) (a + cnTypeS x.f2) := by
  refine indTypeI fun x ih hx => ?_
  exact heldTypeS_step x.f2 hx.all.2.1 (fun y hy => ⟨(hx.all.2.2 y hy).all.1, ih y hy (hx.all.2.2 y hy)⟩)
theorem heldTypeS_ev (xs : List S29) (hn : xs.length ≤ 1048576) (hx : ∀ y ∈ xs, LnType y) (a : Int) (h0 : 0 ≤ a) (hb : a + cnTypeS xs ≤ 4611686018427387000) : Ev (fun k => laws_heldTypeS.f k (mkTypeS xs a) a) (a + cnTypeS xs) := heldTypeS_step xs hn (fun y hy => ⟨(hx y hy).all.1, heldType_in y (hx y hy)⟩) a h0 hb
set_option maxHeartbeats 8000000 in
set_option maxRecDepth 100000 in
theorem markType_own (x : S29) (hl1 : x.f1.length ≤ 1048576) (hm2 : MarksTypeS x.f2) (a : Int) (h0 : 0 ≤ a) (hb : a + (x.f1.length : Nat) + (cnTypeS x.f2 : Nat) ≤ 4611686018427387000) (v1 v2 : Value) (o1 o2 : Nat → Prop) (w0 w : World) (hB : Below w0.heap.size w0 w) (g1 : Kd.R Kd.string 9 w w0.heap.size o1 v1 x.f1) (g2 : Kd.S k29 29 w w0.heap.size o2 v2 x.f2) (u1 : ∀ k, o1 k → k < w.heap.size) (u2 : ∀ k, o2 k → k < w.heap.size) (d : ∀ k, o1 k → ¬ o2 k) :
    Calls Try.prog 17 #[.agg #[.int .i64 x.f0, v1, v2], .int .i64 a] w fun e w' => e = .returned (.int .i64 (a + (x.f1.length : Nat) + (cnTypeS x.f2 : Nat))) ∧ Kd.R Kd.string 9 w' w0.heap.size o1 v1 (mtS (a) x.f1.length) ∧ Kd.S k29 29 w' w0.heap.size o2 v2 (mkTypeS x.f2 (a + (x.f1.length : Nat))) ∧ Below w0.heap.size w0 w' ∧ Kept w w' (fun k => o1 k ∨ o2 k) := by
  have HB := Aside0.mk hB; have HK := Aside0.mk (Kept.refl w (fun k => o1 k ∨ o2 k)); have HA := Aside0.mk (And.intro h0 hb)
  have H1 := Aside0.mk g1; have HU1 := Aside0.mk u1
  have H2 := Aside0.mk g2; have HU2 := Aside0.mk u2
  have HL1 := Aside0.mk hl1
  have HL2 := Aside0.mk hm2
  have HD := Aside0.mk d
  clear hB h0 hb g1 u1 hl1 g2 u2 hm2 d
  go_enter Try.func17, Try.ntmps17
  go_wp2_with (first
    | ((with_reducible refine gate_dst (N := 2) rfl ?_)
       refine box_event ?hg (N := 2) ?hd (cs := #[.int .i64 x.f0, v1, v2]) (t := 29) ?hr ?_; (case hd => rfl); (case hg => rfl); (case hr => first | (go_simp; done) | (go_simp; rfl))
       intro gb hg w1 hbox hb
       have HG := Aside0.mk (show ∀ k, k < w.heap.size → k ≠ gb from fun k h e => by omega)
       have HG2 := Aside0.mk (show w0.heap.size ≤ gb by rw [hg]; exact HB.out.size)
       have n0 := hbox
       have n1 := Kd.R_below H1.out hb
       have n2 := Kd.S_below H2.out hb
       have n3 := below_step HB.out hb
       have n4 := Kept.below HK.out hb
       clear H1 H2 HB HK
       (try clear hx)
       have BK := Aside0.mk n0; have H1 := Aside0.mk n1; have H2 := Aside0.mk n2; have HB := Aside0.mk n3; have HK := Aside0.mk n4
       clear n0 n1 n2 n3 n4
       clear hbox hb hg
       have hx : w1.cell? ⟨gb, 1, none⟩ = some v1 := (blk_cell BK.out 1).trans rfl)
    | ((with_reducible refine gate_callee (f := 55) rfl ?_)
       refine goesL_ (some 8) rfl rfl Try.func55 (by kernel_rfl) rfl #[v1, .int .i64 a] rfl (by (try simp only [List.map_toArray, List.map_cons, List.map_nil]); first | done | rfl) ?_
       (with_reducible refine (markStringS_own x.f1 HL1.out (a) (by have := HA.out; omega) (by have := HA.out; omega) v1 o1 w0 _ HB.out H1.out).mono ?_)
       rintro e w2 ⟨rfl, hr, hb, hk⟩
       refine ⟨_, rfl, ?_⟩
       have n0 := blk_kept BK.out hk (fun h1 => HG.out _ (HU1.out _ h1) rfl)
       have n1 := hr
       have n2 := Kd.S_kept H2.out hk (fun k hk h1 => HD.out k h1 hk)
       have n3 := hb
       have n4 := HK.out.then_ hk (fun k h1 => .inl (Or.inl h1))
       clear BK H1 H2 HB HK
       (try clear hx)
       have BK := Aside0.mk n0; have H1 := Aside0.mk n1; have H2 := Aside0.mk n2; have HB := Aside0.mk n3; have HK := Aside0.mk n4
       clear n0 n1 n2 n3 n4
       clear hr hb hk
       have hx : w2.cell? ⟨gb, 2, none⟩ = some v2 := (blk_cell BK.out 2).trans rfl)
    | ((with_reducible refine gate_callee (f := 70) rfl ?_)
       refine goesL_ (some 12) rfl rfl Try.func70 (by kernel_rfl) rfl #[v2, .int .i64 (a + (x.f1.length : Nat))] rfl (by (try simp only [List.map_toArray, List.map_cons, List.map_nil]); first | done | rfl) ?_
       (with_reducible refine (MarksTypeS.go HL2.out (a + (x.f1.length : Nat)) v2 o2 w0 _ (by have := HA.out; omega) (by have := HA.out; omega) HB.out H2.out).mono ?_)
       rintro e w3 ⟨rfl, hr, hb, hk⟩
       refine ⟨_, rfl, ?_⟩
       have n0 := blk_kept BK.out hk (fun h1 => HG.out _ (HU2.out _ h1) rfl)
       have n1 := Kd.R_kept H1.out hk (fun k hk h1 => HD.out k hk h1)
       have n2 := hr
       have n3 := hb
       have n4 := HK.out.then_ hk (fun k h1 => .inl (Or.inr h1))
       clear BK H1 H2 HB HK
       (try clear hx)
       have BK := Aside0.mk n0; have H1 := Aside0.mk n1; have H2 := Aside0.mk n2; have HB := Aside0.mk n3; have HK := Aside0.mk n4
       clear n0 n1 n2 n3 n4
       clear hr hb hk))
  go_ret
  exact ⟨rfl, H1.out, H2.out, HB.out, HK.out⟩

end Go.Proofs.Ytcgdaeaaimkhdaa.Py
end
section
namespace Go.Proofs.Ytcgdaeaaimkhdaa.Py
open Go.RowKit Go.Proofs.YtcgdaeaaimkhdaaW.PrintWords Go.Proofs.YtcgdaeaaimkhdaaW.PrintLast Go.Proofs.Ytcgdaeaaimkhdaa.Pl Go.Proofs.Ytcgdaeaaimkhdaa.Ext
set_option linter.unusedVariables false
set_option linter.unusedSimpArgs false
def cnTableDecl (x : S102) : Nat := 2 + x.f1.f1.length + cnTypeS x.f1.f2
noncomputable def mkTableDecl (x : S102) (a : Int) : S102 := ⟨mt (a), ⟨a + 1, mtS (a + 2) x.f1.f1.length, mkTypeS x.f1.f2 (a + 2 + (x.f1.f1.length : Nat))⟩⟩
def cnTableDeclS : List S102 → Nat
  | [] => 0
  | x :: r => cnTableDecl x + cnTableDeclS r
noncomputable def mkTableDeclS : List S102 → Int → List S102
  | [], _ => []
  | x :: r, a => mkTableDecl x a :: mkTableDeclS r (a + cnTableDecl x)
theorem cnTableDecl_eq (x : S102) : cnTableDecl x = 2 + x.f1.f1.length + cnTypeS x.f1.f2 := rfl
theorem mkTableDecl_eq (x : S102) (a : Int) : mkTableDecl x a = ⟨mt (a), ⟨a + 1, mtS (a + 2) x.f1.f1.length, mkTypeS x.f1.f2 (a + 2 + (x.f1.f1.length : Nat))⟩⟩ := rfl
theorem mkTableDeclS_length : ∀ (xs : List S102) (a : Int), (mkTableDeclS xs a).length = xs.length
  | [], _ => rfl
  | x :: r, a => by simp [mkTableDeclS, mkTableDeclS_length r]
theorem cnTableDeclS_append : ∀ xs ys : List S102, cnTableDeclS (xs ++ ys) = cnTableDeclS xs + cnTableDeclS ys
  | [], ys => by simp [cnTableDeclS]
  | x :: r, ys => by simp only [List.cons_append, cnTableDeclS, cnTableDeclS_append r ys]; omega
theorem mkTableDeclS_append : ∀ (xs ys : List S102) (a : Int), mkTableDeclS (xs ++ ys) a = mkTableDeclS xs a ++ mkTableDeclS ys (a + cnTableDeclS xs)
  | [], ys, a => by simp [mkTableDeclS, cnTableDeclS]
  | x :: r, ys, a => by
    simp only [List.cons_append, mkTableDeclS, mkTableDeclS_append r ys, cnTableDeclS]
    rw [show a + cnTableDecl x + (cnTableDeclS r : Int) = a + ((cnTableDecl x + cnTableDeclS r : Nat) : Int) by omega]
theorem cnTableDeclS_take (xs : List S102) (i : Nat) (h : i < xs.length) : cnTableDeclS (xs.take (i + 1)) = cnTableDeclS (xs.take i) + cnTableDecl (xs.getD i z102) := by
  rw [List.take_succ_eq_append_getElem h, cnTableDeclS_append]
  simp [cnTableDeclS, List.getD_eq_getElem?_getD, h]
theorem cnTableDeclS_take_le (xs : List S102) (i : Nat) : cnTableDeclS (xs.take i) ≤ cnTableDeclS xs := by
  have := cnTableDeclS_append (xs.take i) (xs.drop i)
  rw [List.take_append_drop] at this
  omega
theorem mkTableDeclS_step (xs : List S102) (i : Nat) (h : i < xs.length) (a : Int) : (mkTableDeclS (xs.take i) a ++ xs.drop i).set i (mkTableDecl (xs.getD i z102) (a + cnTableDeclS (xs.take i))) = mkTableDeclS (xs.take (i + 1)) a ++ xs.drop (i + 1) := by
  have hl : (mkTableDeclS (xs.take i) a).length = i := by rw [mkTableDeclS_length, List.length_take]; omega
  rw [List.set_append, if_neg (by omega), hl, Nat.sub_self, List.drop_eq_getElem_cons h, List.set_cons_zero, List.take_succ_eq_append_getElem h, mkTableDeclS_append]
  simp [mkTableDeclS, List.getD_eq_getElem?_getD, h]
theorem mkTableDeclS_at (xs : List S102) (i : Nat) (h : i < xs.length) (a : Int) : (mkTableDeclS (xs.take i) a ++ xs.drop i).getD i z102 = xs.getD i z102 := by
  have hl : (mkTableDeclS (xs.take i) a).length = i := by rw [mkTableDeclS_length, List.length_take]; omega
  rw [List.getD_eq_getElem?_getD, List.getElem?_append_right (by omega), hl, Nat.sub_self, List.getElem?_drop, Nat.add_zero, List.getD_eq_getElem?_getD]
theorem mkTableDeclS_len (xs : List S102) (i : Nat) (a : Int) : (mkTableDeclS (xs.take i) a ++ xs.drop i).length = xs.length := by
  rw [List.length_append, mkTableDeclS_length, List.length_take, List.length_drop]; omega
/-- What markTableDeclS does with the row xs. -/
def MarksTableDeclS (xs : List S102) : Prop :=
  ∀ (a : Int) (v : Value) (ok : Nat → Prop) (w0 w : World), 0 ≤ a → a + cnTableDeclS xs ≤ 4611686018427387000 → Below w0.heap.size w0 w → Kd.S k102 102 w w0.heap.size ok v xs →
    Calls Try.prog 75 #[v, .int .i64 a] w fun e w' => e = .returned (.int .i64 (a + cnTableDeclS xs)) ∧ Kd.S k102 102 w' w0.heap.size ok v (mkTableDeclS xs a) ∧ Below w0.heap.size w0 w' ∧ Kept w w' ok
theorem MarksTableDeclS.go {xs : List S102} (h : MarksTableDeclS xs) (a : Int) (v : Value) (ok : Nat → Prop) (w0 w : World) (h0 : 0 ≤ a) (hb : a + cnTableDeclS xs ≤ 4611686018427387000) (hB : Below w0.heap.size w0 w) (ho : Kd.S k102 102 w w0.heap.size ok v xs) :
    Calls Try.prog 75 #[v, .int .i64 a] w fun e w' => e = .returned (.int .i64 (a + cnTableDeclS xs)) ∧ Kd.S k102 102 w' w0.heap.size ok v (mkTableDeclS xs a) ∧ Below w0.heap.size w0 w' ∧ Kept w w' ok := h a v ok w0 w h0 hb hB ho
set_option maxHeartbeats 8000000 in
set_option maxRecDepth 100000 in
theorem marksTableDeclS_step (xs : List S102) (hn : xs.length ≤ 1048576) (hx : ∀ y ∈ xs, y.f1.f1.length ≤ 1048576 ∧ MarksTypeS y.f1.f2) : MarksTableDeclS xs := by
  intro a v ok w0 w h0 hb hB ho
  have HO := Aside0.mk ho
  have HB := Aside0.mk hB
  have HK := Aside0.mk (Kept.refl w ok)
  have HX := Aside0.mk hx
  have HA := Aside0.mk (And.intro h0 (And.intro hb hn))
  clear ho hB hx h0 hb hn
  go_enter Try.func75, Try.ntmps75
  go_wp2
  go_loopg [1, 5] xs.length (fun kq v1 v5 w' => ∃ (b i : Int) (L : List S102), v1 = .int .i64 b ∧ v5 = .int .i64 i ∧ Aside0 (0 ≤ i ∧ i + kq = xs.length ∧ b = a + cnTableDeclS (xs.take i.toNat)) ∧ Aside0 (L = mkTableDeclS (xs.take i.toNat) a ++ xs.drop i.toNat) ∧ Aside0 (Kd.S k102 102 w' w0.heap.size ok v L) ∧ Aside0 (Below w0.heap.size w0 w') ∧ Aside0 (Kept w w' ok))
  case atStart => exact ⟨a, 0, xs, rfl, rfl, ⟨by omega, by omega, by simp [cnTableDeclS]⟩, ⟨by simp [mkTableDeclS]⟩, HO, HB, HK⟩
  case round =>
    clear HO HB HK
    obtain ⟨b, i, L, rfl, rfl, HI, HLE, HO, HB, HK⟩ := hrel
    obtain ⟨Ao, co, eo⟩ := Kd.S_slice HO.out
    have hlen : L.length = xs.length := by rw [HLE.out]; exact mkTableDeclS_len xs i.toNat a
    rw [hlen] at eo
    have HL := Aside0.mk hlen
    clear hlen
    subst eo
    by_cases hlt : i < (xs.length : Int)
    · have hd : decide (i < (xs.length : Int)) = true := decide_eq_true hlt
      have hi0 : (0 ≤ i) = True := eq_true HI.out.1
      have hi1 : (i < (xs.length : Int)) = True := eq_true hlt
      have HLT := Aside0.mk (show i.toNat < xs.length by have := HI.out.1; omega)
      obtain ⟨g, cap, eg, gb, gl, HG⟩ := Kd.S_form HO.out (by rw [HL.out]; have := HLT.out; omega)
      rw [HL.out] at eg
      injection eg with ea _ ec
      subst ea ec
      have GB := Aside0.mk gb
      clear gb gl HG
      obtain ⟨oki, c, hcl, hM, hcc, hfr, hoki, hH⟩ := Kd.S_elem HO.out z102 i HI.out.1 (by exact hlt)
      rw [HLE.out, mkTableDeclS_at xs i.toNat HLT.out a] at hM
      generalize hxe : xs.getD i.toNat z102 = x at hM
      have HXE := Aside0.mk hxe
      have hxm : x ∈ xs := by rw [← hxe]; exact mem_getD xs z102 _ HLT.out
      have HXL := Aside0.mk (HX.out x hxm)
      clear hxe hxm
      obtain ⟨v2, v3, o2, o3, rfl, s2, s3, d12, g2, g3⟩ := k102_openA hM
      have HH := Aside0.mk hH
      have H2 := Aside0.mk g2
      have HS2 := Aside0.mk s2
      have H3 := Aside0.mk g3
      have HS3 := Aside0.mk s3
      have HD := Aside0.mk d12
      have HOK := Aside0.mk (show ok g from (Kd.S_R HO.out).1 g rfl)
      have HOI := Aside0.mk hoki
      have HLT2 := Aside0.mk hlt
      have HE := Aside0.mk (show b + cnTableDecl x ≤ a + cnTableDeclS xs ∧ b = a + cnTableDeclS (xs.take i.toNat) ∧ 0 ≤ b ∧ 0 ≤ a ∧ a + cnTableDeclS xs ≤ 4611686018427387000 by
        have e1 := cnTableDeclS_take xs i.toNat HLT.out
        have e2 := cnTableDeclS_take_le xs (i.toNat + 1)
        rw [HXE.out] at e1
        have := HI.out; have := HA.out
        refine ⟨by omega, by omega, by omega, by omega, by omega⟩)
      have HW1 := Aside0.mk (show wrap64 (b + 1) = b + 1 by have := HE.out; have := cnTableDecl_eq x; unfold wrap64; omega)
      have HW2 := Aside0.mk (show wrap64 (wrap64 (b + 1) + 1) = b + 2 by rw [HW1.out]; have := HE.out; have := cnTableDecl_eq x; unfold wrap64; omega)
      have HV2 := Aside0.mk (show wrap64 (b + 1 + 1) = b + 2 by have := HE.out; have := cnTableDecl_eq x; unfold wrap64; omega)
      clear hcl hM hcc hfr hoki hH hlt HO s2 g2 s3 g3 d12
      go_wp2_with (first
        | ((with_reducible refine gate_callee (f := 101) rfl ?_)
           refine goesL_ (some 15) rfl rfl Try.func101 (by kernel_rfl) rfl #[.int .i64 b] rfl (by (try simp only [List.map_toArray, List.map_cons, List.map_nil]); first | done | rfl) ?_
           (with_reducible refine (markText_own (b) (by have := HE.out; have := cnTableDecl_eq x; omega) _).mono ?_)
           rintro e w3 ⟨rfl, hb⟩
           refine ⟨_, rfl, ?_⟩
           have n0 := Kd.H_below HH.out hb
           have n1 := Kd.R_below H2.out hb
           have n2 := Kd.S_below H3.out hb
           have n3 := below_step HB.out hb
           have n4 := Kept.below HK.out hb
           clear HH H2 H3 HB HK
           (try clear hx)
           (try clear hf)
           have HH := Aside0.mk n0; have H2 := Aside0.mk n1; have H3 := Aside0.mk n2; have HB := Aside0.mk n3; have HK := Aside0.mk n4
           clear n0 n1 n2 n3 n4
           clear hb
           have hx : w3.cell? ⟨g, i.toNat * 4, none⟩ = some (.string x.f0) := (Ow.H_cells HH.out HI.out.1 HLT2.out).1 0 _ rfl
           have hf : w3.frozen? ⟨g, i.toNat * 4, none⟩ = false := (Ow.H_cells HH.out HI.out.1 HLT2.out).2 0)
        | ((with_reducible refine gate_store (t := 9) (p := 17) rfl ?_)
           refine store_event (t := 9) (p := 17) (v := ?vo_w4) (w1 := (w3.setCell ⟨g, i.toNat * 4, none⟩ (.string (mt (b))))) ?hg ?ho ?hn ?hr ?_; (case ho => rfl); (case hg => rfl); (case hn => rfl); (case hr => first | (go_simp; done) | (go_simp; rfl)); intro w4 hw
           have hseg := Kd.H_seg HH.out HI.out.1 HLT2.out (seg := [.string (mt (b))]) (j := 0) (show 0 + 1 ≤ 4 by decide) (fun q hq => by rw [List.mem_singleton.1 hq]; rfl)
           have hg : w3.grownBy w4 (some g) := by rw [hw]; exact hseg.2
           have n0 := (show Kd.H k102 102 w4 w0.heap.size ok (.slice (some ⟨g, 0, none⟩) xs.length co) L i oki [.string (mt (b)), .int .i64 x.f1.f0, v2, v3] by rw [hw]; exact hseg.1)
           have n1 := Kd.R_grown H2.out hg (fun k hk e => (HOI.out k (HS2.out k hk)).2 (by injection e))
           have n2 := Kd.S_grown H3.out hg (fun k hk e => (HOI.out k (HS3.out k hk)).2 (by injection e))
           have n3 := (show Below w0.heap.size w0 w4 by rw [hw]; exact below_set HB.out GB.out)
           have n4 := Kept.of_grown hg HK.out (fun k e => .inl (by injection e with e; exact e ▸ HOK.out))
           clear HH H2 H3 HB HK
           (try clear hx)
           (try clear hf)
           have HH := Aside0.mk n0; have H2 := Aside0.mk n1; have H3 := Aside0.mk n2; have HB := Aside0.mk n3; have HK := Aside0.mk n4
           clear n0 n1 n2 n3 n4
           clear hw hg hseg
           have hx : w4.cell? ⟨g, i.toNat * 4 + 1, none⟩ = some (.int .i64 x.f1.f0) := (Ow.H_cells HH.out HI.out.1 HLT2.out).1 1 _ rfl
           have hf : w4.frozen? ⟨g, i.toNat * 4 + 1, none⟩ = false := (Ow.H_cells HH.out HI.out.1 HLT2.out).2 1)
        | ((with_reducible refine gate_store (t := 3) (p := 25) rfl ?_)
           refine store_event (t := 3) (p := 25) (v := ?vo_w5) (w1 := (w4.setCell ⟨g, i.toNat * 4 + 1, none⟩ (.int .i64 (wrap64 (b + 1))))) ?hg ?ho ?hn ?hr ?_; (case ho => rfl); (case hg => rfl); (case hn => rfl); (case hr => first | (go_simp; done) | (go_simp; rfl)); intro w5 hw
           have hseg := Kd.H_seg HH.out HI.out.1 HLT2.out (seg := [.int .i64 (wrap64 (b + 1))]) (j := 1) (show 1 + 1 ≤ 4 by decide) (fun q hq => by rw [List.mem_singleton.1 hq]; rfl)
           have hg : w4.grownBy w5 (some g) := by rw [hw]; exact hseg.2
           have n0 := (show Kd.H k102 102 w5 w0.heap.size ok (.slice (some ⟨g, 0, none⟩) xs.length co) L i oki [.string (mt (b)), .int .i64 (wrap64 (b + 1)), v2, v3] by rw [hw]; exact hseg.1)
           have n1 := Kd.R_grown H2.out hg (fun k hk e => (HOI.out k (HS2.out k hk)).2 (by injection e))
           have n2 := Kd.S_grown H3.out hg (fun k hk e => (HOI.out k (HS3.out k hk)).2 (by injection e))
           have n3 := (show Below w0.heap.size w0 w5 by rw [hw]; exact below_set HB.out GB.out)
           have n4 := Kept.of_grown hg HK.out (fun k e => .inl (by injection e with e; exact e ▸ HOK.out))
           clear HH H2 H3 HB HK
           (try clear hx)
           (try clear hf)
           have HH := Aside0.mk n0; have H2 := Aside0.mk n1; have H3 := Aside0.mk n2; have HB := Aside0.mk n3; have HK := Aside0.mk n4
           clear n0 n1 n2 n3 n4
           clear hw hg hseg
           have hx : w5.cell? ⟨g, i.toNat * 4 + 2, none⟩ = some (v2) := (Ow.H_cells HH.out HI.out.1 HLT2.out).1 2 _ rfl)
        | ((with_reducible refine gate_callee (f := 55) rfl ?_)
           refine goesL_ (some 35) rfl rfl Try.func55 (by kernel_rfl) rfl #[v2, .int .i64 (wrap64 (wrap64 (b + 1) + 1))] rfl (by (try simp only [List.map_toArray, List.map_cons, List.map_nil]); first | done | rfl) ?_
           (with_reducible refine (markStringS_own x.f1.f1 HXL.out.1 (wrap64 (wrap64 (b + 1) + 1)) (by rw [HW2.out]; have := HE.out; omega) (by rw [HW2.out]; have := HE.out; have := cnTableDecl_eq x; omega) v2 o2 w0 _ HB.out H2.out).mono ?_)
           rintro e w6 ⟨rfl, hr, hb, hk⟩
           refine ⟨_, rfl, ?_⟩
           have n0 := Kd.H_kept HH.out hk (fun k hk hn h1 => hn (HS2.out k h1))
           have n1 := hr
           have n2 := Kd.S_kept H3.out hk (fun k hk h1 => HD.out k h1 hk)
           have n3 := hb
           have n4 := HK.out.then_ hk (fun k h1 => .inl (HOI.out k (HS2.out k h1)).1)
           clear HH H2 H3 HB HK
           (try clear hx)
           (try clear hf)
           have HH := Aside0.mk n0; have H2 := Aside0.mk n1; have H3 := Aside0.mk n2; have HB := Aside0.mk n3; have HK := Aside0.mk n4
           clear n0 n1 n2 n3 n4
           clear hr hb hk
           have hx : w6.cell? ⟨g, i.toNat * 4 + 3, none⟩ = some (v3) := (Ow.H_cells HH.out HI.out.1 HLT2.out).1 3 _ rfl)
        | ((with_reducible refine gate_callee (f := 70) rfl ?_)
           refine goesL_ (some 43) rfl rfl Try.func70 (by kernel_rfl) rfl #[v3, .int .i64 (wrap64 (wrap64 (b + 1) + 1) + (x.f1.f1.length : Nat))] rfl (by (try simp only [List.map_toArray, List.map_cons, List.map_nil]); first | done | rfl) ?_
           (with_reducible refine (MarksTypeS.go HXL.out.2 (wrap64 (wrap64 (b + 1) + 1) + (x.f1.f1.length : Nat)) v3 o3 w0 _ (by rw [HW2.out]; have := HE.out; omega) (by rw [HW2.out]; have := HE.out; have := cnTableDecl_eq x; omega) HB.out H3.out).mono ?_)
           rintro e w7 ⟨rfl, hr, hb, hk⟩
           refine ⟨_, rfl, ?_⟩
           have n0 := Kd.H_kept HH.out hk (fun k hk hn h1 => hn (HS3.out k h1))
           have n1 := Kd.R_kept H2.out hk (fun k hk h1 => HD.out k hk h1)
           have n2 := hr
           have n3 := hb
           have n4 := HK.out.then_ hk (fun k h1 => .inl (HOI.out k (HS3.out k h1)).1)
           clear HH H2 H3 HB HK
           (try clear hx)
           (try clear hf)
           have HH := Aside0.mk n0; have H2 := Aside0.mk n1; have H3 := Aside0.mk n2; have HB := Aside0.mk n3; have HK := Aside0.mk n4
           clear n0 n1 n2 n3 n4
           clear hr hb hk))
      obtain ⟨k1, rfl⟩ : ∃ m, gk = m + 1 := ⟨gk - 1, by have := HI.out; have := HLT2.out; omega⟩
      go_roundg k1
      case measure => omega
      case rel =>
        have hM2 := k102_mkA _ w0.heap.size oki (⟨mt (b), ⟨wrap64 (b + 1), mtS (wrap64 (wrap64 (b + 1) + 1)) x.f1.f1.length, mkTypeS x.f1.f2 (wrap64 (wrap64 (b + 1) + 1) + (x.f1.f1.length : Nat))⟩⟩ : S102) (Kd.R_mono H2.out HS2.out) (Kd.S_mono H3.out (fun k hk => ⟨HS3.out k hk, fun e => HD.out k (H2.out.1 k e.symm) hk⟩))
        have hS := Kd.H_back HH.out hM2 (fun _ hk => hk)
        have hz : i.toNat + 1 = (wrap64 (i + 1)).toNat := by have := HI.out; have := HLT2.out; have := HA.out; unfold wrap64; omega
        have hw1 : wrap64 (i + 1) = i + 1 := by have := HI.out; have := HLT2.out; have := HA.out; unfold wrap64; omega
        refine ⟨wrap64 (wrap64 (b + 1) + 1) + (x.f1.f1.length : Nat) + (cnTypeS x.f1.f2 : Nat), wrap64 (i + 1), _, rfl, rfl, ⟨by omega, ?_, ?_⟩, ⟨?_⟩, ⟨hS⟩, HB, HK⟩
        · have := HI.out; have := HLT2.out; omega
        · rw [← hz, cnTableDeclS_take xs i.toNat HLT.out, HXE.out, cnTableDecl_eq]; (try simp only [HW1.out, HV2.out]); have := HE.out; omega
        · rw [← hz, ← mkTableDeclS_step xs i.toNat HLT.out a, HXE.out, mkTableDecl_eq, ← HE.out.2.1, HLE.out]; (try simp only [HW1.out, HV2.out])
    · have hd : decide (i < (xs.length : Int)) = false := decide_eq_false hlt
      have HT := Aside0.mk (show i.toNat = xs.length by have := HI.out; omega)
      clear hlt
      go_wp2
      go_ret
      refine ⟨?_, ?_, HB.out, HK.out⟩
      · rw [HI.out.2.2, HT.out, List.take_of_length_le (Nat.le_refl _)]
        rfl
      · have := HO.out
        rw [HLE.out, HT.out, List.take_of_length_le (Nat.le_refl _), List.drop_of_length_le (Nat.le_refl _), List.append_nil] at this
        exact this
/-- All rows inside are short. -/
def LnTableDecl (x : S102) : Prop := x.f1.f1.length ≤ 1048576 ∧ x.f1.f2.length ≤ 1048576 ∧ ∀ y ∈ x.f1.f2, LnType y
theorem marksTableDeclS (xs : List S102) (hn : xs.length ≤ 1048576) (hx : ∀ y ∈ xs, LnTableDecl y) : MarksTableDeclS xs := marksTableDeclS_step xs hn (fun y hy => ⟨(hx y hy).1, marksTypeS y.f1.f2 (hx y hy).2.1 (hx y hy).2.2⟩)
end Go.Proofs.Ytcgdaeaaimkhdaa.Py
end
section
namespace Go.Proofs.Ytcgdaeaaimkhdaa.Py
open Go.RowKit Go.Proofs.YtcgdaeaaimkhdaaW.PrintWords Go.Proofs.YtcgdaeaaimkhdaaW.PrintLast Go.Proofs.Ytcgdaeaaimkhdaa.Pl Go.Proofs.Ytcgdaeaaimkhdaa.Ext
set_option linter.unusedVariables false
set_option linter.unusedSimpArgs false
theorem spec_l3Copy_ev : ∀ x : S29, SmType x → Ev (fun k => spec_l3Copy.f k x.f0 x.f1 x.f2) (x.f0, x.f1, x.f2) := by
  refine indTypeI fun x ih hx => ?_
  have hp1 := hx.p1
  have hp2 := hx.p2
  refine Ev.up ?_
  simp only [spec_l3Copy.f]
  refine Ev.none_bind (Ev.pos (by simp; omega) ?_)
  suffices h : ∀ m i, i + m = x.f2.length → Ev (fun k => spec_l3Copy.l0 k (i : Int) x.f0 x.f1 x.f2 x.f0 x.f1 (x.f2.take i)) (x.f0, x.f1, x.f2) by simpa using h x.f2.length 0 (by omega)
  intro m
  induction m with
  | zero =>
    intro i hi
    refine Ev.up ?_
    simp only [spec_l3Copy.l0]
    refine Ev.neg (by omega) (Ev.const ?_)
    rw [List.take_of_length_le (by omega)]
  | succ m ih2 =>
    intro i hi
    have hlt : i < x.f2.length := by omega
    have hm := mem_getD x.f2 z29 i hlt
    refine Ev.up ?_
    simp only [spec_l3Copy.l0]
    refine Ev.pos (by omega) (Ev.pos (by omega) (Ev.bind (ih _ hm (hp2.2 _ hm)) (Ev.pos (by rw [List.length_take]; omega) ?_)))
    rw [w1' hlt hp2.1]
    simp only [rd_T29, Int.toNat_natCast, etaType]
    have e : x.f2.take i ++ [x.f2.getD i z29] = x.f2.take (i + 1) := by
      rw [List.take_succ_eq_append_getElem hlt, List.getD_eq_getElem?_getD, List.getElem?_eq_getElem hlt]
      rfl
    have h2 := ih2 (i + 1) (by omega)
    rw [← e] at h2
    exact h2
theorem impl_cloneType_ev : ∀ x : S29, SmType x → Ev (fun k => impl_cloneType.f k x.f0 x.f1 x.f2) (x.f0, x.f1, x.f2) := by
  refine indTypeI fun x ih hx => ?_
  have hp1 := hx.p1
  have hp2 := hx.p2
  refine Ev.up ?_
  simp only [impl_cloneType.f]
  refine Ev.fix (a := x.f1) (by unfold slices_Clone_string_string.f; rw [if_pos (by omega)]) ?_
  suffices h : ∀ m i, i + m = x.f2.length → Ev (fun k => impl_cloneType.l0 k x.f2 (x.f2.length : Int) (i : Int) x.f0 x.f1 (x.f2.take i)) (x.f0, x.f1, x.f2) by simpa using h x.f2.length 0 (by omega)
  intro m
  induction m with
  | zero =>
    intro i hi
    refine Ev.up ?_
    simp only [impl_cloneType.l0]
    refine Ev.neg (by omega) (Ev.const ?_)
    rw [List.take_of_length_le (by omega)]
  | succ m ih2 =>
    intro i hi
    have hlt : i < x.f2.length := by omega
    have hm := mem_getD x.f2 z29 i hlt
    refine Ev.up ?_
    simp only [impl_cloneType.l0]
    refine Ev.pos (by omega) (Ev.pos (by omega) (Ev.pos (by omega) (Ev.bind (ih _ hm (hp2.2 _ hm)) (Ev.pos (by rw [List.length_take]; omega) ?_))))
    rw [w1' hlt hp2.1]
    simp only [rd_T29, Int.toNat_natCast, etaType]
    have e : x.f2.take i ++ [x.f2.getD i z29] = x.f2.take (i + 1) := by
      rw [List.take_succ_eq_append_getElem hlt, List.getD_eq_getElem?_getD, List.getElem?_eq_getElem hlt]
      rfl
    have h2 := ih2 (i + 1) (by omega)
    rw [← e] at h2
    exact h2

end Go.Proofs.Ytcgdaeaaimkhdaa.Py
end
section
namespace Go.Proofs.Ytcgdaeaaimkhdaa.Py
open Go.RowKit Go.Proofs.YtcgdaeaaimkhdaaW.PrintWords Go.Proofs.YtcgdaeaaimkhdaaW.PrintLast Go.Proofs.Ytcgdaeaaimkhdaa.Pl Go.Proofs.Ytcgdaeaaimkhdaa.Ext
set_option linter.unusedVariables false
set_option linter.unusedSimpArgs false
theorem RowType_same (xs : List S102) (hx : xs.length ≤ 1048576) (ht : ∀ y ∈ xs, SmType y.f1 ∧ cnType y.f1 ≤ 1048577) (s : ByteArray) : ∃ (r : S29) (b : Bool), Ev (fun k => spec_RowType.f k xs s) (r.f0, r.f1, r.f2, b) ∧ Ev (fun k => impl_RowType.f k xs s) (r.f0, r.f1, r.f2, b) ∧ SmType r ∧ cnType r ≤ 1048577 := by
  suffices h : ∀ m i, i + m = xs.length → ∃ (r : S29) (b : Bool), Ev (fun k => spec_RowType.l0 k s (i : Int) xs) (r.f0, r.f1, r.f2, b) ∧ Ev (fun k => impl_RowType.l0 k s xs (xs.length : Int) (i : Int)) (r.f0, r.f1, r.f2, b) ∧ SmType r ∧ cnType r ≤ 1048577 by
    have := h xs.length 0 (by omega)
    rw [Int.natCast_zero] at this
    simpa only [spec_RowType.f, impl_RowType.f] using this
  intro m
  induction m with
  | zero =>
    intro i hi
    refine ⟨⟨0, [], []⟩, false, Ev.up ?_, Ev.up ?_, SmType.mk (by decide) ⟨by simp, by simp⟩ (by simp) (by simp), by simp [cnType, cnTypeS]⟩
    · simp only [spec_RowType.l0]; exact Ev.neg (by omega) (Ev.now _)
    · simp only [impl_RowType.l0]; exact Ev.neg (by omega) (Ev.now _)
  | succ m ih =>
    intro i hi
    obtain ⟨r, b, h1, h2, h3, h4⟩ := ih (i + 1) (by omega)
    have hlt : i < xs.length := by omega
    have hm := ht _ (mem_getD xs z102 i hlt)
    by_cases hc : ((rd_T102 xs (i : Int)).f0).toList = s.toList
    · refine ⟨(xs.getD i z102).f1, true, Ev.up ?_, Ev.up ?_, hm.1, hm.2⟩
      · simp only [spec_RowType.l0]; exact Ev.pos (by omega) (Ev.pos (by omega) (Ev.pos hc (Ev.bind (spec_l3Copy_ev _ hm.1) (Ev.now _))))
      · simp only [impl_RowType.l0]; exact Ev.pos (by omega) (Ev.pos (by omega) (Ev.pos (by omega) (Ev.pos hc (Ev.bind (impl_cloneType_ev _ hm.1) (Ev.now _)))))
    · refine ⟨r, b, Ev.up ?_, Ev.up ?_, h3, h4⟩
      · simp only [spec_RowType.l0]
        refine Ev.pos (by omega) (Ev.pos (by omega) (Ev.neg hc ?_))
        rw [w1' hlt hx]; exact h1
      · simp only [impl_RowType.l0]
        refine Ev.pos (by omega) (Ev.pos (by omega) (Ev.pos (by omega) (Ev.neg hc ?_)))
        rw [w1' hlt hx]; exact h2
theorem lnTableDecl_of (x : S102) (h : SmTableDecl x) : LnTableDecl x := ⟨h.p1.p1.1, h.p1.p2.1, fun y hy => lnType_of y (h.p1.p2.2 y hy)⟩
theorem cnTableDeclS_cv : ∀ l : List S136, cnTableDeclS (cvTableDeclS l) ≤ 2 * l.length + wtTableDeclS l
  | [] => by simp [cvTableDeclS, cnTableDeclS]
  | x :: r => by
    have h1 := cnTableDeclS_cv r
    have h2 := cnType_cv x.f1
    have h3 := cnType_eq (cvType x.f1)
    simp only [cvTableDeclS, cnTableDeclS, wtTableDeclS, List.length_cons]
    rw [cnTableDecl_eq, cvTableDecl_eq, wtTableDecl_eq]
    dsimp only
    omega

end Go.Proofs.Ytcgdaeaaimkhdaa.Py
end
section
namespace Go.Proofs.Ytcgdaeaaimkhdaa.Py
open Go.RowKit Go.Proofs.YtcgdaeaaimkhdaaW.PrintWords Go.Proofs.YtcgdaeaaimkhdaaW.PrintLast Go.Proofs.Ytcgdaeaaimkhdaa.Pl Go.Proofs.Ytcgdaeaaimkhdaa.Ext
set_option linter.unusedVariables false
set_option linter.unusedSimpArgs false
set_option maxHeartbeats 8000000 in
set_option maxRecDepth 100000 in
theorem markSchema_own (x : S43) (hm0 : MarksTableDeclS x.f0) (a : Int) (h0 : 0 ≤ a) (hb : a + (cnTableDeclS x.f0 : Nat) ≤ 4611686018427387000) (v0 : Value) (o0 : Nat → Prop) (w0 w : World) (hB : Below w0.heap.size w0 w) (g0 : Kd.S k102 102 w w0.heap.size o0 v0 x.f0) (u0 : ∀ k, o0 k → k < w.heap.size) :
    Calls Try.prog 24 #[.agg #[v0], .int .i64 a] w fun e w' => e = .returned (.int .i64 (a + (cnTableDeclS x.f0 : Nat))) ∧ Kd.S k102 102 w' w0.heap.size o0 v0 (mkTableDeclS x.f0 (a)) ∧ Below w0.heap.size w0 w' ∧ Kept w w' (fun k => o0 k) := by
  have HB := Aside0.mk hB; have HK := Aside0.mk (Kept.refl w (fun k => o0 k)); have HA := Aside0.mk (And.intro h0 hb)
  have H0 := Aside0.mk g0; have HU0 := Aside0.mk u0
  have HL0 := Aside0.mk hm0
  clear hB h0 hb g0 u0 hm0
  go_enter Try.func24, Try.ntmps24
  go_wp2_with (first
    | ((with_reducible refine gate_dst (N := 2) rfl ?_)
       refine box_event ?hg (N := 2) ?hd (cs := #[v0]) (t := 43) ?hr ?_; (case hd => rfl); (case hg => rfl); (case hr => first | (go_simp; done) | (go_simp; rfl))
       intro gb hg w1 hbox hb
       have HG := Aside0.mk (show ∀ k, k < w.heap.size → k ≠ gb from fun k h e => by omega)
       have HG2 := Aside0.mk (show w0.heap.size ≤ gb by rw [hg]; exact HB.out.size)
       have n0 := hbox
       have n1 := Kd.S_below H0.out hb
       have n2 := below_step HB.out hb
       have n3 := Kept.below HK.out hb
       clear H0 HB HK
       (try clear hx)
       have BK := Aside0.mk n0; have H0 := Aside0.mk n1; have HB := Aside0.mk n2; have HK := Aside0.mk n3
       clear n0 n1 n2 n3
       clear hbox hb hg
       have hx : w1.cell? ⟨gb, 0, none⟩ = some v0 := (blk_cell BK.out 0).trans rfl)
    | ((with_reducible refine gate_callee (f := 75) rfl ?_)
       refine goesL_ (some 8) rfl rfl Try.func75 (by kernel_rfl) rfl #[v0, .int .i64 a] rfl (by (try simp only [List.map_toArray, List.map_cons, List.map_nil]); first | done | rfl) ?_
       (with_reducible refine (MarksTableDeclS.go HL0.out (a) v0 o0 w0 _ (by have := HA.out; omega) (by have := HA.out; omega) HB.out H0.out).mono ?_)
       rintro e w2 ⟨rfl, hr, hb, hk⟩
       refine ⟨_, rfl, ?_⟩
       have n0 := blk_kept BK.out hk (fun h1 => HG.out _ (HU0.out _ h1) rfl)
       have n1 := hr
       have n2 := hb
       have n3 := HK.out.then_ hk (fun k h1 => .inl (h1))
       clear BK H0 HB HK
       (try clear hx)
       have BK := Aside0.mk n0; have H0 := Aside0.mk n1; have HB := Aside0.mk n2; have HK := Aside0.mk n3
       clear n0 n1 n2 n3
       clear hr hb hk))
  go_ret
  exact ⟨rfl, H0.out, HB.out, HK.out⟩

end Go.Proofs.Ytcgdaeaaimkhdaa.Py
end
