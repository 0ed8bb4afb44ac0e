/- The family Value of mirrored types: the weight of a value, its copy, and what the laws' own helpers come to. No condition. -/
import Derived.Test.YtipjapiifnoimaaPe1
import Derived.Test.YtipjapiifnoimaaPe4
import Derived.Test.YtipjapiifnoimaaPe7
import Derived.Test.YtipjapiifnoimaaPl
import Derived.Test.YtipjapiifnoimaaPeFString
namespace Go.Proofs.Ytipjapiifnoimaa.Pe
open Go.RowKit Go.Proofs.YtipjapiifnoimaaW.PrintWords Go.Proofs.Ytipjapiifnoimaa.Pl
set_option linter.unusedVariables false
set_option linter.unusedSimpArgs false
mutual
def wtValue : S37 → Nat
  | ⟨x0, x1, x2, x3⟩ => wts x2 + (x3.length + wtValueS x3)
def wtValueS : List S37 → Nat
  | [] => 0
  | x :: r => wtValue x + wtValueS r
end
mutual
def cvValue : S37 → S42
  | ⟨x0, x1, x2, x3⟩ => ⟨x0, x1, x2, (cvValueS x3)⟩
def cvValueS : List S37 → List S42
  | [] => []
  | x :: r => cvValue x :: cvValueS r
end
theorem wtValueS_sum (xs : List S37) : wtValueS xs = (xs.map wtValue).sum := by
  induction xs with
  | nil => rfl
  | cons x r ih => simp [wtValueS, ih]
theorem cvValueS_map (xs : List S37) : cvValueS xs = xs.map cvValue := by
  induction xs with
  | nil => rfl
  | cons x r ih => simp [cvValueS, ih]
theorem wtValue_eq (x : S37) : wtValue x = wts x.f2 + (x.f3.length + wtValueS x.f3) := by cases x; simp only [wtValue]
theorem cvValue_eq (x : S37) : cvValue x = ⟨x.f0, x.f1, x.f2, (cvValueS x.f3)⟩ := by cases x; simp only [cvValue]
theorem indValueL {P : S37 → Prop} (h : ∀ x, (∀ y ∈ x.f3, P y) → P x) : ∀ x, P x
  | ⟨x0, x1, x2, x3⟩ => h _ (fun y hy => indValueL h y)
termination_by x => SizeOf.sizeOf x
decreasing_by
  have := List.sizeOf_lt_of_mem hy
  simp at this ⊢
  omega
theorem indValueI {P : S42 → Prop} (h : ∀ x, (∀ y ∈ x.f3, P y) → P x) : ∀ x, P x
  | ⟨x0, x1, x2, x3⟩ => h _ (fun y hy => indValueI h y)
termination_by x => SizeOf.sizeOf x
decreasing_by
  have := List.sizeOf_lt_of_mem hy
  simp at this ⊢
  omega
inductive SmValue : S42 → Prop
  | mk {x : S42} : ((Lit.int .i64 x.f0).wf = true) → ((Lit.int .i64 x.f1).wf = true) → ((x.f2.length ≤ 1048576 ∧ ∀ y ∈ x.f2, y.size ≤ 1048576)) → x.f3.length ≤ 1048576 → (∀ y ∈ x.f3, SmValue y) → SmValue x
theorem SmValue.p0 {x : S42} (h : SmValue x) : (Lit.int .i64 x.f0).wf = true := by cases h; assumption
theorem SmValue.p1 {x : S42} (h : SmValue x) : (Lit.int .i64 x.f1).wf = true := by cases h; assumption
theorem SmValue.p2 {x : S42} (h : SmValue x) : (x.f2.length ≤ 1048576 ∧ ∀ y ∈ x.f2, y.size ≤ 1048576) := by cases h; assumption
theorem SmValue.p3 {x : S42} (h : SmValue x) : x.f3.length ≤ 1048576 ∧ ∀ y ∈ x.f3, SmValue y := by cases h; constructor <;> assumption
theorem etaValue (x : S42) : (⟨x.f0, x.f1, x.f2, x.f3⟩ : S42) = x := by obtain ⟨_, _, _, _⟩ := x; rfl
mutual
def ndValue : S42 → Nat
  | ⟨x0, x1, x2, x3⟩ => 1 + ndValueS x3
def ndValueS : List S42 → Nat
  | [] => 0
  | x :: r => ndValue x + ndValueS r
end
theorem ndValueS_sum (xs : List S42) : ndValueS xs = (xs.map ndValue).sum := by
  induction xs with
  | nil => rfl
  | cons x r ih => simp [ndValueS, ih]
theorem ndValue_eq (x : S42) : ndValue x = 1 + (x.f3.map ndValue).sum := by cases x; simp only [ndValue, ndValueS_sum]
theorem ndValue_cv : ∀ x : S37, ndValue (cvValue x) ≤ wtValue x + 1 := by
  refine indValueL fun x ih => ?_
  rw [ndValue_eq, cvValue_eq, wtValue_eq]
  have hL : ∀ l : List S37, (∀ y ∈ l, ndValue (cvValue y) ≤ wtValue y + 1) → ((l.map cvValue).map ndValue).sum ≤ l.length + (l.map wtValue).sum := by
    intro l
    induction l with
    | nil => intro _; simp
    | cons y r ih2 =>
      intro h
      have h1 := h y (List.mem_cons_self ..)
      have h2 := ih2 (fun z hz => h z (List.mem_cons_of_mem _ hz))
      simp only [List.map_cons, List.sum_cons, List.length_cons] at h2 ⊢
      omega
  have := hL x.f3 ih
  (try dsimp only)
  rw [cvValueS_map, wtValueS_sum]
  omega
theorem smValue_of : ∀ x : S37, W37 x → wtValue x ≤ 1048576 → SmValue (cvValue x) := by
  refine indValueL fun x ih hw hw2 => ?_
  have hb := hw2
  rw [wtValue_eq] at hb
  rw [cvValue_eq]
  exact SmValue.mk (hw.p0) (hw.p1) (⟨by (try dsimp only); unfold wts at hb; omega, fun y hy => by (try dsimp only at hy); have := sum_le_of_mem ByteArray.size hy; unfold wts szs at hb; omega⟩) (by (try dsimp only); rw [cvValueS_map, List.length_map]; omega) (fun z hz => by
      (try dsimp only at hz)
      rw [cvValueS_map] at hz
      obtain ⟨y, hy, rfl⟩ := List.mem_map.1 hz
      exact ih y hy (hw.p3.2 y hy) (by have := sum_le_of_mem wtValue hy; rw [← wtValueS_sum] at this; omega))
theorem szValueS_of (xs : List S37) (hx : xs.length ≤ maxLen) (h : ∀ y ∈ xs, ∀ left : Int, 0 ≤ left → left ≤ 1048576 → Ev (fun k => laws_szValue.f k (y.f0) (y.f1) (y.f2) (y.f3) left) (cut (wtValue y) left)) (left : Int) (h0 : 0 ≤ left) (hl : left ≤ 1048576) : Ev (fun k => laws_szValueS.f k xs left) (cut (xs.length + wtValueS xs) left) := by
  refine Ev.up ?_
  simp only [laws_szValueS.f]
  have hs := cut_sub (n := xs.length) h0 hl hx
  by_cases hc : cut xs.length left < 0
  · exact Ev.pos (hs.1.2 hc) (Ev.const (cut_add' hc).symm)
  · refine Ev.neg (fun h => hc (hs.1.1 h)) ?_
    rw [hs.2 (by omega)]
    have hl2 := cut_le (n := xs.length) h0
    have hw := sz_loop xs.length (fun k i left => laws_szValue.f k ((rd_T37 xs (i : Int)).f0) ((rd_T37 xs (i : Int)).f1) ((rd_T37 xs (i : Int)).f2) ((rd_T37 xs (i : Int)).f3) left) (fun k left i => laws_szValueS.l0 k xs left (i : Int)) (fun i => wtValue (xs.getD i z37)) (fun k left i hi => by
      simp only [laws_szValueS.l0]
      rw [if_pos (by omega), if_pos (by omega), w1 hi hx]) (fun k left => by simp only [laws_szValueS.l0]; rw [if_neg (by omega)]) (fun i left hi h0 hl => h _ (mem_getD xs z37 i hi) left h0 hl) xs.length 0 _ (by omega) (show 0 ≤ cut xs.length left by omega) (by omega)
    refine Ev.eq hw ?_
    rw [cut_add (by omega), sumF_list wtValue z37 xs xs.length 0 (by omega), wtValueS_sum]
    rfl
theorem szValue_ev : ∀ x : S37, W37 x → ∀ left : Int, 0 ≤ left → left ≤ 1048576 → Ev (fun k => laws_szValue.f k (x.f0) (x.f1) (x.f2) (x.f3) left) (cut (wtValue x) left) := by
  refine indValueL fun x ih hw left h0 hl => ?_
  refine Ev.up ?_
  simp only [laws_szValue.f]
  rw [wtValue_eq]
  have hb0 : (0 : Int) ≤ left ∧ left ≤ 1048576 := ⟨h0, hl⟩
  refine Ev.bind (szStringS_ev x.f2 hw.p2 _ hb0.1 hb0.2) ?_
  by_cases hc0 : cut (wts x.f2) left < 0
  · refine Ev.pos hc0 (Ev.const ?_)
    have hn : cut (wts x.f2) left < 0 := hc0
    have hn : cut (wts x.f2 + (x.f3.length + wtValueS x.f3)) left < 0 := by rw [cut_add' hn]; omega
    have hv := cut_neg.1 hn; unfold cut; rw [if_neg hv]
  refine Ev.neg hc0 ?_
  have hb1 : (0 : Int) ≤ cut (wts x.f2) left ∧ cut (wts x.f2) left ≤ 1048576 := ⟨by omega, by have := cut_le (n := wts x.f2) h0; omega⟩
  refine Ev.bind (szValueS_of x.f3 hw.p3.1 (fun y hy => ih y hy (hw.p3.2 y hy)) _ hb1.1 hb1.2) ?_
  by_cases hc1 : cut ((x.f3.length + wtValueS x.f3)) (cut (wts x.f2) left) < 0
  · refine Ev.pos hc1 (Ev.const ?_)
    have hn : cut (wts x.f2 + (x.f3.length + wtValueS x.f3)) left < 0 := by rw [← cut_add (by omega)]; exact hc1
    have hv := cut_neg.1 hn; unfold cut; rw [if_neg hv]
  refine Ev.neg hc1 ?_
  rw [cut_add (by omega)] at hc1 ⊢
  have hb2 : (0 : Int) ≤ cut (wts x.f2 + (x.f3.length + wtValueS x.f3)) left ∧ cut (wts x.f2 + (x.f3.length + wtValueS x.f3)) left ≤ 1048576 := ⟨by omega, by have := cut_le (n := wts x.f2 + (x.f3.length + wtValueS x.f3)) h0; omega⟩
  exact Ev.const rfl
theorem toValueS_of (xs : List S37) (hx : xs.length ≤ 1048576) (h : ∀ y ∈ xs, Ev (fun k => laws_toValue.f k (y.f0) (y.f1) (y.f2) (y.f3)) ((cvValue y).f0, (cvValue y).f1, (cvValue y).f2, (cvValue y).f3)) : Ev (fun k => laws_toValueS.f k xs) (cvValueS xs) := by
  refine Ev.up ?_
  simp only [laws_toValueS.f]
  refine Ev.pos (by omega) (Ev.pos (by omega) ?_)
  have hw := to_loop xs.length (fun k i => (laws_toValue.f k ((rd_T37 xs (i : Int)).f0) ((rd_T37 xs (i : Int)).f1) ((rd_T37 xs (i : Int)).f2) ((rd_T37 xs (i : Int)).f3)).map fun t => (⟨t.1, t.2.1, t.2.2.1, t.2.2.2⟩ : S42)) (fun k out i => laws_toValueS.l0 k xs out (i : Int)) (fun i => cvValue (xs.getD i z37)) (fun k out i hi hl => by
    simp only [laws_toValueS.l0]
    rw [if_pos (by omega), if_pos (by omega)]
    rcases laws_toValue.f k ((rd_T37 xs (i : Int)).f0) ((rd_T37 xs (i : Int)).f1) ((rd_T37 xs (i : Int)).f2) ((rd_T37 xs (i : Int)).f3) with _ | t
    · rfl
    · simp only [Option.map_some, Option.bind_some]
      rw [if_pos (by omega), w1' hi hx]
      rfl) (fun k out => by simp only [laws_toValueS.l0]; rw [if_neg (by omega)]) (fun i hi => Ev.eq (Ev.map (fun t => (⟨t.1, t.2.1, t.2.2.1, t.2.2.2⟩ : S42)) (h _ (mem_getD xs z37 i hi))) (etaValue _)) xs.length 0 (List.replicate ((xs.length : Int)).toNat z42) (by omega) (by simp)
  refine Ev.eq hw ?_
  rw [List.take_zero, List.nil_append, range_map_getElem cvValue z37 xs, cvValueS_map]
theorem toValue_ev : ∀ x : S37, wtValue x ≤ 1048576 → Ev (fun k => laws_toValue.f k (x.f0) (x.f1) (x.f2) (x.f3)) ((cvValue x).f0, (cvValue x).f1, (cvValue x).f2, (cvValue x).f3) := by
  refine indValueL fun x ih hw2 => ?_
  refine Ev.up ?_
  simp only [laws_toValue.f]
  have hb := hw2
  rw [wtValue_eq] at hb
  refine Ev.bind (toStringS_ev x.f2 (by unfold wts at hb; omega)) ?_
  refine Ev.bind (toValueS_of x.f3 (by omega) (fun y hy => ih y hy (by have := sum_le_of_mem wtValue hy; rw [← wtValueS_sum] at this; omega))) ?_
  exact Ev.const (by rw [cvValue_eq])
theorem eqValueS_of (xs : List S42) (hx : xs.length ≤ 1048576) (h : ∀ y ∈ xs, Ev (fun k => laws_eqValue.f k (y.f0) (y.f1) (y.f2) (y.f3) (y.f0) (y.f1) (y.f2) (y.f3)) true) : Ev (fun k => laws_eqValueS.f k xs xs) true := by
  refine Ev.up ?_
  simp only [laws_eqValueS.f]
  refine Ev.pos (by simp) ?_
  exact eq_loop xs.length (fun k i => laws_eqValue.f k ((rd_T42 xs (i : Int)).f0) ((rd_T42 xs (i : Int)).f1) ((rd_T42 xs (i : Int)).f2) ((rd_T42 xs (i : Int)).f3) ((rd_T42 xs (i : Int)).f0) ((rd_T42 xs (i : Int)).f1) ((rd_T42 xs (i : Int)).f2) ((rd_T42 xs (i : Int)).f3)) (fun k i => laws_eqValueS.l0 k xs xs (i : Int)) (fun k i hi => by
    simp only [laws_eqValueS.l0]
    rw [if_pos (by omega), if_pos (by omega), if_pos (by omega), w1' hi hx]) (fun k => by simp only [laws_eqValueS.l0]; rw [if_neg (by omega)]) (fun i hi => h _ (mem_getD xs z42 i hi)) xs.length 0 (by omega)
theorem eqValue_ev : ∀ x : S42, SmValue x → Ev (fun k => laws_eqValue.f k (x.f0) (x.f1) (x.f2) (x.f3) (x.f0) (x.f1) (x.f2) (x.f3)) true := by
  refine indValueI fun x ih hs => ?_
  refine Ev.up ?_
  simp only [laws_eqValue.f]
  refine Ev.pos (by simp) ?_
  refine Ev.pos (by simp) ?_
  refine Ev.bind (eqStringS_ev x.f2 hs.p2.1) (Ev.pos (by simp) ?_)
  refine Ev.bind (eqValueS_of x.f3 hs.p3.1 (fun y hy => ih y hy (hs.p3.2 y hy))) (Ev.pos (by simp) ?_)
  exact Ev.now _
end Go.Proofs.Ytipjapiifnoimaa.Pe
