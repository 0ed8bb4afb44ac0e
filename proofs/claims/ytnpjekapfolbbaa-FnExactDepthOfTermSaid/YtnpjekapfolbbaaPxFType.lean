/- The family Type of mirrored types: the weight of a value, its copy, and what the laws' own helpers come to. No condition. -/
import Derived.Test.YtnpjekapfolbbaaPx1
import Derived.Test.YtnpjekapfolbbaaPx2
import Derived.Test.YtnpjekapfolbbaaPx3
import Derived.Test.YtnpjekapfolbbaaPl
import Derived.Test.YtnpjekapfolbbaaPxFString
namespace Go.Proofs.Ytnpjekapfolbbaa.Px
open Go.RowKit Go.Proofs.YtnpjekapfolbbaaW.PrintWords Go.Proofs.Ytnpjekapfolbbaa.Pl
set_option linter.unusedVariables false
set_option linter.unusedSimpArgs false
mutual
def wtType : S25 → Nat
  | ⟨x0, x1, x2⟩ => wts x1 + (x2.length + wtTypeS x2)
def wtTypeS : List S25 → Nat
  | [] => 0
  | x :: r => wtType x + wtTypeS r
end
mutual
def cvType : S25 → S33
  | ⟨x0, x1, x2⟩ => ⟨x0, x1, (cvTypeS x2)⟩
def cvTypeS : List S25 → List S33
  | [] => []
  | x :: r => cvType x :: cvTypeS r
end
theorem wtTypeS_sum (xs : List S25) : wtTypeS xs = (xs.map wtType).sum := by
  induction xs with
  | nil => rfl
  | cons x r ih => simp [wtTypeS, ih]
theorem cvTypeS_map (xs : List S25) : cvTypeS xs = xs.map cvType := by
  induction xs with
  | nil => rfl
  | cons x r ih => simp [cvTypeS, ih]
theorem wtType_eq (x : S25) : wtType x = wts x.f1 + (x.f2.length + wtTypeS x.f2) := by cases x; simp only [wtType]
theorem cvType_eq (x : S25) : cvType x = ⟨x.f0, x.f1, (cvTypeS x.f2)⟩ := by cases x; simp only [cvType]
theorem indTypeL {P : S25 → Prop} (h : ∀ x, (∀ y ∈ x.f2, P y) → P x) : ∀ x, P x
  | ⟨x0, x1, x2⟩ => h _ (fun y hy => indTypeL h y)
termination_by x => SizeOf.sizeOf x
decreasing_by
  have := List.sizeOf_lt_of_mem hy
  simp at this ⊢
  omega
theorem indTypeI {P : S33 → Prop} (h : ∀ x, (∀ y ∈ x.f2, P y) → P x) : ∀ x, P x
  | ⟨x0, x1, x2⟩ => h _ (fun y hy => indTypeI h y)
termination_by x => SizeOf.sizeOf x
decreasing_by
  have := List.sizeOf_lt_of_mem hy
  simp at this ⊢
  omega
inductive SmType : S33 → Prop
  | mk {x : S33} : ((Lit.int .i64 x.f0).wf = true) → ((x.f1.length ≤ 1048576 ∧ ∀ y ∈ x.f1, y.size ≤ 1048576)) → x.f2.length ≤ 1048576 → (∀ y ∈ x.f2, SmType y) → SmType x
theorem SmType.p0 {x : S33} (h : SmType x) : (Lit.int .i64 x.f0).wf = true := by cases h; assumption
theorem SmType.p1 {x : S33} (h : SmType x) : (x.f1.length ≤ 1048576 ∧ ∀ y ∈ x.f1, y.size ≤ 1048576) := by cases h; assumption
theorem SmType.p2 {x : S33} (h : SmType x) : x.f2.length ≤ 1048576 ∧ ∀ y ∈ x.f2, SmType y := by cases h; constructor <;> assumption
theorem etaType (x : S33) : (⟨x.f0, x.f1, x.f2⟩ : S33) = x := by obtain ⟨_, _, _⟩ := x; rfl
mutual
def ndType : S33 → Nat
  | ⟨x0, x1, x2⟩ => 1 + ndTypeS x2
def ndTypeS : List S33 → Nat
  | [] => 0
  | x :: r => ndType x + ndTypeS r
end
theorem ndTypeS_sum (xs : List S33) : ndTypeS xs = (xs.map ndType).sum := by
  induction xs with
  | nil => rfl
  | cons x r ih => simp [ndTypeS, ih]
theorem ndType_eq (x : S33) : ndType x = 1 + (x.f2.map ndType).sum := by cases x; simp only [ndType, ndTypeS_sum]
theorem ndType_cv : ∀ x : S25, ndType (cvType x) ≤ wtType x + 1 := by
  refine indTypeL fun x ih => ?_
  rw [ndType_eq, cvType_eq, wtType_eq]
  have hL : ∀ l : List S25, (∀ y ∈ l, ndType (cvType y) ≤ wtType y + 1) → ((l.map cvType).map ndType).sum ≤ l.length + (l.map wtType).sum := by
    intro l
    induction l with
    | nil => intro _; simp
    | cons y r ih2 =>
      intro h
      have h1 := h y (List.mem_cons_self ..)
      have h2 := ih2 (fun z hz => h z (List.mem_cons_of_mem _ hz))
      simp only [List.map_cons, List.sum_cons, List.length_cons] at h2 ⊢
      omega
  have := hL x.f2 ih
  (try dsimp only)
  rw [cvTypeS_map, wtTypeS_sum]
  omega
theorem smType_of : ∀ x : S25, W25 x → wtType x ≤ 1048576 → SmType (cvType x) := by
  refine indTypeL fun x ih hw hw2 => ?_
  have hb := hw2
  rw [wtType_eq] at hb
  rw [cvType_eq]
  exact SmType.mk (hw.p0) (⟨by (try dsimp only); unfold wts at hb; omega, fun y hy => by (try dsimp only at hy); have := sum_le_of_mem ByteArray.size hy; unfold wts szs at hb; omega⟩) (by (try dsimp only); rw [cvTypeS_map, List.length_map]; omega) (fun z hz => by
      (try dsimp only at hz)
      rw [cvTypeS_map] at hz
      obtain ⟨y, hy, rfl⟩ := List.mem_map.1 hz
      exact ih y hy (hw.p2.2 y hy) (by have := sum_le_of_mem wtType hy; rw [← wtTypeS_sum] at this; omega))
theorem szTypeS_of (xs : List S25) (hx : xs.length ≤ maxLen) (h : ∀ y ∈ xs, ∀ left : Int, 0 ≤ left → left ≤ 1048576 → Ev (fun k => laws_szType.f k (y.f0) (y.f1) (y.f2) left) (cut (wtType y) left)) (left : Int) (h0 : 0 ≤ left) (hl : left ≤ 1048576) : Ev (fun k => laws_szTypeS.f k xs left) (cut (xs.length + wtTypeS xs) left) := by
  refine Ev.up ?_
  simp only [laws_szTypeS.f]
  have hs := cut_sub (n := xs.length) h0 hl hx
  by_cases hc : cut xs.length left < 0
  · exact Ev.pos (hs.1.2 hc) (Ev.const (cut_add' hc).symm)
  · refine Ev.neg (fun h => hc (hs.1.1 h)) ?_
    rw [hs.2 (by omega)]
    have hl2 := cut_le (n := xs.length) h0
    have hw := sz_loop xs.length (fun k i left => laws_szType.f k ((rd_T25 xs (i : Int)).f0) ((rd_T25 xs (i : Int)).f1) ((rd_T25 xs (i : Int)).f2) left) (fun k left i => laws_szTypeS.l0 k xs left (i : Int)) (fun i => wtType (xs.getD i z25)) (fun k left i hi => by
      simp only [laws_szTypeS.l0]
      rw [if_pos (by omega), if_pos (by omega), w1 hi hx]) (fun k left => by simp only [laws_szTypeS.l0]; rw [if_neg (by omega)]) (fun i left hi h0 hl => h _ (mem_getD xs z25 i hi) left h0 hl) xs.length 0 _ (by omega) (show 0 ≤ cut xs.length left by omega) (by omega)
    refine Ev.eq hw ?_
    rw [cut_add (by omega), sumF_list wtType z25 xs xs.length 0 (by omega), wtTypeS_sum]
    rfl
theorem szType_ev : ∀ x : S25, W25 x → ∀ left : Int, 0 ≤ left → left ≤ 1048576 → Ev (fun k => laws_szType.f k (x.f0) (x.f1) (x.f2) left) (cut (wtType x) left) := by
  refine indTypeL fun x ih hw left h0 hl => ?_
  refine Ev.up ?_
  simp only [laws_szType.f]
  rw [wtType_eq]
  have hb0 : (0 : Int) ≤ left ∧ left ≤ 1048576 := ⟨h0, hl⟩
  refine Ev.bind (szStringS_ev x.f1 hw.p1 _ hb0.1 hb0.2) ?_
  by_cases hc0 : cut (wts x.f1) left < 0
  · refine Ev.pos hc0 (Ev.const ?_)
    have hn : cut (wts x.f1) left < 0 := hc0
    have hn : cut (wts x.f1 + (x.f2.length + wtTypeS x.f2)) left < 0 := by rw [cut_add' hn]; omega
    have hv := cut_neg.1 hn; unfold cut; rw [if_neg hv]
  refine Ev.neg hc0 ?_
  have hb1 : (0 : Int) ≤ cut (wts x.f1) left ∧ cut (wts x.f1) left ≤ 1048576 := ⟨by omega, by have := cut_le (n := wts x.f1) h0; omega⟩
  refine Ev.bind (szTypeS_of x.f2 hw.p2.1 (fun y hy => ih y hy (hw.p2.2 y hy)) _ hb1.1 hb1.2) ?_
  by_cases hc1 : cut ((x.f2.length + wtTypeS x.f2)) (cut (wts x.f1) left) < 0
  · refine Ev.pos hc1 (Ev.const ?_)
    have hn : cut (wts x.f1 + (x.f2.length + wtTypeS x.f2)) left < 0 := by rw [← cut_add (by omega)]; exact hc1
    have hv := cut_neg.1 hn; unfold cut; rw [if_neg hv]
  refine Ev.neg hc1 ?_
  rw [cut_add (by omega)] at hc1 ⊢
  have hb2 : (0 : Int) ≤ cut (wts x.f1 + (x.f2.length + wtTypeS x.f2)) left ∧ cut (wts x.f1 + (x.f2.length + wtTypeS x.f2)) left ≤ 1048576 := ⟨by omega, by have := cut_le (n := wts x.f1 + (x.f2.length + wtTypeS x.f2)) h0; omega⟩
  exact Ev.const rfl
theorem toTypeS_of (xs : List S25) (hx : xs.length ≤ 1048576) (h : ∀ y ∈ xs, Ev (fun k => laws_toType.f k (y.f0) (y.f1) (y.f2)) ((cvType y).f0, (cvType y).f1, (cvType y).f2)) : Ev (fun k => laws_toTypeS.f k xs) (cvTypeS xs) := by
  refine Ev.up ?_
  simp only [laws_toTypeS.f]
  refine Ev.pos (by omega) (Ev.pos (by omega) ?_)
  have hw := to_loop xs.length (fun k i => (laws_toType.f k ((rd_T25 xs (i : Int)).f0) ((rd_T25 xs (i : Int)).f1) ((rd_T25 xs (i : Int)).f2)).map fun t => (⟨t.1, t.2.1, t.2.2⟩ : S33)) (fun k out i => laws_toTypeS.l0 k xs out (i : Int)) (fun i => cvType (xs.getD i z25)) (fun k out i hi hl => by
    simp only [laws_toTypeS.l0]
    rw [if_pos (by omega), if_pos (by omega)]
    rcases laws_toType.f k ((rd_T25 xs (i : Int)).f0) ((rd_T25 xs (i : Int)).f1) ((rd_T25 xs (i : Int)).f2) with _ | t
    · rfl
    · simp only [Option.map_some, Option.bind_some]
      rw [if_pos (by omega), w1' hi hx]
      rfl) (fun k out => by simp only [laws_toTypeS.l0]; rw [if_neg (by omega)]) (fun i hi => Ev.eq (Ev.map (fun t => (⟨t.1, t.2.1, t.2.2⟩ : S33)) (h _ (mem_getD xs z25 i hi))) (etaType _)) xs.length 0 (List.replicate ((xs.length : Int)).toNat z33) (by omega) (by simp)
  refine Ev.eq hw ?_
  rw [List.take_zero, List.nil_append, range_map_getElem cvType z25 xs, cvTypeS_map]
theorem toType_ev : ∀ x : S25, wtType x ≤ 1048576 → Ev (fun k => laws_toType.f k (x.f0) (x.f1) (x.f2)) ((cvType x).f0, (cvType x).f1, (cvType x).f2) := by
  refine indTypeL fun x ih hw2 => ?_
  refine Ev.up ?_
  simp only [laws_toType.f]
  have hb := hw2
  rw [wtType_eq] at hb
  refine Ev.bind (toStringS_ev x.f1 (by unfold wts at hb; omega)) ?_
  refine Ev.bind (toTypeS_of x.f2 (by omega) (fun y hy => ih y hy (by have := sum_le_of_mem wtType hy; rw [← wtTypeS_sum] at this; omega))) ?_
  exact Ev.const (by rw [cvType_eq])
theorem eqTypeS_of (xs : List S33) (hx : xs.length ≤ 1048576) (h : ∀ y ∈ xs, Ev (fun k => laws_eqType.f k (y.f0) (y.f1) (y.f2) (y.f0) (y.f1) (y.f2)) true) : Ev (fun k => laws_eqTypeS.f k xs xs) true := by
  refine Ev.up ?_
  simp only [laws_eqTypeS.f]
  refine Ev.pos (by simp) ?_
  exact eq_loop xs.length (fun k i => laws_eqType.f k ((rd_T33 xs (i : Int)).f0) ((rd_T33 xs (i : Int)).f1) ((rd_T33 xs (i : Int)).f2) ((rd_T33 xs (i : Int)).f0) ((rd_T33 xs (i : Int)).f1) ((rd_T33 xs (i : Int)).f2)) (fun k i => laws_eqTypeS.l0 k xs xs (i : Int)) (fun k i hi => by
    simp only [laws_eqTypeS.l0]
    rw [if_pos (by omega), if_pos (by omega), if_pos (by omega), w1' hi hx]) (fun k => by simp only [laws_eqTypeS.l0]; rw [if_neg (by omega)]) (fun i hi => h _ (mem_getD xs z33 i hi)) xs.length 0 (by omega)
theorem eqType_ev : ∀ x : S33, SmType x → Ev (fun k => laws_eqType.f k (x.f0) (x.f1) (x.f2) (x.f0) (x.f1) (x.f2)) true := by
  refine indTypeI fun x ih hs => ?_
  refine Ev.up ?_
  simp only [laws_eqType.f]
  refine Ev.pos (by simp) ?_
  refine Ev.bind (eqStringS_ev x.f1 hs.p1.1) (Ev.pos (by simp) ?_)
  refine Ev.bind (eqTypeS_of x.f2 hs.p2.1 (fun y hy => ih y hy (hs.p2.2 y hy))) (Ev.pos (by simp) ?_)
  exact Ev.now _
end Go.Proofs.Ytnpjekapfolbbaa.Px
