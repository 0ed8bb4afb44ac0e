/- The family Value of mirrored types: the weight of a value, its copy, and what the laws' own helpers come to. No condition. -/
import Derived.Test.YtcgdaeaaimkhdaaZEmptyDBPy11
import Derived.Test.YtcgdaeaaimkhdaaZEmptyDBPy12M
import Derived.Test.YtcgdaeaaimkhdaaZEmptyDBPy6M
import Derived.Test.YtcgdaeaaimkhdaaZEmptyDBPy10M
import Derived.Test.YtcgdaeaaimkhdaaZEmptyDBWTabM
import Derived.Test.YtcgdaeaaimkhdaaZEmptyDBWLastM
import Derived.Test.YtcgdaeaaimkhdaaZEmptyDBPy3M
section
namespace Go.Proofs.Ytcgdaeaaimkhdaa.Py
open Go.RowKit Go.Proofs.YtcgdaeaaimkhdaaW.PrintWords Go.Proofs.Ytcgdaeaaimkhdaa.Pl
set_option linter.unusedVariables false
set_option linter.unusedSimpArgs false
theorem indValueI {P : S70 → Prop} (h : ∀ x, (∀ y ∈ x.f3, P y) → P x) : ∀ x, P x
  | ⟨x0, x1, x2, x3⟩ => h _ (fun y hy => indValueI h y)
termination_by x => SizeOf.sizeOf x
decreasing_by
  have := List.sizeOf_lt_of_mem hy
  simp at this ⊢
  omega
inductive SmValue : S70 → Prop
  | mk {x : S70} : ((Lit.int .i64 x.f0).wf = true) → ((Lit.int .i64 x.f1).wf = true) → ((x.f2.length ≤ 1048576 ∧ ∀ y ∈ x.f2, y.size ≤ 1048576)) → x.f3.length ≤ 1048576 → (∀ y ∈ x.f3, SmValue y) → SmValue x
theorem SmValue.p0 {x : S70} (h : SmValue x) : (Lit.int .i64 x.f0).wf = true := by cases h; assumption
theorem SmValue.p1 {x : S70} (h : SmValue x) : (Lit.int .i64 x.f1).wf = true := by cases h; assumption
theorem SmValue.p2 {x : S70} (h : SmValue x) : (x.f2.length ≤ 1048576 ∧ ∀ y ∈ x.f2, y.size ≤ 1048576) := by cases h; assumption
theorem SmValue.p3 {x : S70} (h : SmValue x) : x.f3.length ≤ 1048576 ∧ ∀ y ∈ x.f3, SmValue y := by cases h; constructor <;> assumption
theorem eqValueS_of (xs : List S70) (hx : xs.length ≤ 1048576) (h : ∀ y ∈ xs, Ev (fun k => laws_eqValue.f k (y.f0) (y.f1) (y.f2) (y.f3) (y.f0) (y.f1) (y.f2) (y.f3)) true) : Ev (fun k => laws_eqValueS.f k xs xs) true := by
  refine Ev.up ?_
  simp only [laws_eqValueS.f]
  refine Ev.pos (by simp) ?_
  exact eq_loop xs.length (fun k i => laws_eqValue.f k ((rd_T70 xs (i : Int)).f0) ((rd_T70 xs (i : Int)).f1) ((rd_T70 xs (i : Int)).f2) ((rd_T70 xs (i : Int)).f3) ((rd_T70 xs (i : Int)).f0) ((rd_T70 xs (i : Int)).f1) ((rd_T70 xs (i : Int)).f2) ((rd_T70 xs (i : Int)).f3)) (fun k i => laws_eqValueS.l0 k xs xs (i : Int)) (fun k i hi => by
    simp only [laws_eqValueS.l0]
    rw [if_pos (by omega), if_pos (by omega), if_pos (by omega), w1' hi hx]) (fun k => by simp only [laws_eqValueS.l0]; rw [if_neg (by omega)]) (fun i hi => h _ (mem_getD xs z70 i hi)) xs.length 0 (by omega)
theorem eqValue_ev : ∀ x : S70, SmValue x → Ev (fun k => laws_eqValue.f k (x.f0) (x.f1) (x.f2) (x.f3) (x.f0) (x.f1) (x.f2) (x.f3)) true := by
  refine indValueI fun x ih hs => ?_
  refine Ev.up ?_
  simp only [laws_eqValue.f]
  refine Ev.pos (by simp) ?_
  refine Ev.pos (by simp) ?_
  refine Ev.bind (eqStringS_ev x.f2 hs.p2.1) (Ev.pos (by simp) ?_)
  refine Ev.bind (eqValueS_of x.f3 hs.p3.1 (fun y hy => ih y hy (hs.p3.2 y hy))) (Ev.pos (by simp) ?_)
  exact Ev.now _
end Go.Proofs.Ytcgdaeaaimkhdaa.Py
end
section
namespace Go.Proofs.Ytcgdaeaaimkhdaa.Py
open Go.RowKit Go.Proofs.YtcgdaeaaimkhdaaW.PrintWords Go.Proofs.Ytcgdaeaaimkhdaa.Pl
set_option linter.unusedVariables false
set_option linter.unusedSimpArgs false
def SmTableData (x : S107) : Prop := (x.f0.size ≤ 1048576) ∧ ((x.f1.length ≤ 1048576 ∧ ∀ y ∈ x.f1, SmValue y))
theorem SmTableData.p0 {x : S107} (h : SmTableData x) : x.f0.size ≤ 1048576 := h.1
theorem SmTableData.p1 {x : S107} (h : SmTableData x) : (x.f1.length ≤ 1048576 ∧ ∀ y ∈ x.f1, SmValue y) := h.2
theorem eqTableDataS_of (xs : List S107) (hx : xs.length ≤ 1048576) (h : ∀ y ∈ xs, Ev (fun k => laws_eqTableData.f k (y.f0) (y.f1) (y.f0) (y.f1)) true) : Ev (fun k => laws_eqTableDataS.f k xs xs) true := by
  simp only [laws_eqTableDataS.f]
  refine Ev.pos (by simp) ?_
  exact eq_loop xs.length (fun k i => laws_eqTableData.f k ((rd_T107 xs (i : Int)).f0) ((rd_T107 xs (i : Int)).f1) ((rd_T107 xs (i : Int)).f0) ((rd_T107 xs (i : Int)).f1)) (fun k i => laws_eqTableDataS.l0 k xs xs (i : Int)) (fun k i hi => by
    simp only [laws_eqTableDataS.l0]
    rw [if_pos (by omega), if_pos (by omega), if_pos (by omega), w1' hi hx]) (fun k => by simp only [laws_eqTableDataS.l0]; rw [if_neg (by omega)]) (fun i hi => h _ (mem_getD xs z107 i hi)) xs.length 0 (by omega)
theorem eqTableData_ev : ∀ x : S107, SmTableData x → Ev (fun k => laws_eqTableData.f k (x.f0) (x.f1) (x.f0) (x.f1)) true := by
  intro x hs
  simp only [laws_eqTableData.f]
  refine Ev.pos (by simp) ?_
  refine Ev.bind (eqValueS_of x.f1 hs.p1.1 (fun y hy => eqValue_ev y (hs.p1.2 y hy))) (Ev.pos (by simp) ?_)
  exact Ev.now _
end Go.Proofs.Ytcgdaeaaimkhdaa.Py
end
section
namespace Go.Proofs.Ytcgdaeaaimkhdaa.Py
open Go.RowKit Go.Proofs.YtcgdaeaaimkhdaaW.PrintWords Go.Proofs.YtcgdaeaaimkhdaaW.PrintLast Go.Proofs.Ytcgdaeaaimkhdaa.Pl Go.Proofs.Ytcgdaeaaimkhdaa.Ext
set_option linter.unusedVariables false
set_option linter.unusedSimpArgs false
theorem strOne (n : Int) : (strOfNums [n]).size = 1 := by simp [strOfNums]; rfl
theorem markLoop_ex : ∀ (m : Nat) (x : Int) (s : ByteArray), 0 ≤ x → x ≤ 4611686018427387904 → x < (10 : Int) ^ m → s.size + m ≤ 1000 → ∃ r, Ev (fun k => laws_markText.l0 k x s) r := by
  intro m
  induction m with
  | zero =>
    intro x s h0 hb h1 hs
    refine ⟨(⟨#[109]⟩ : ByteArray) ++ s, Ev.up ?_⟩
    simp only [laws_markText.l0]
    exact Ev.neg (by simp at h1; omega) (Ev.pos (by omega) (Ev.now _))
  | succ m ih =>
    intro x s h0 hb h1 hs
    by_cases hx : x > 0
    · have ht : Int.tdiv x 10 = x / 10 := Int.tdiv_eq_ediv_of_nonneg h0
      have hw : wrap64 (Int.tdiv x 10) = x / 10 := by rw [ht]; exact w64 (by omega) (by omega)
      have hl : x / 10 < (10 : Int) ^ m := by
        rw [Int.pow_succ] at h1
        omega
      obtain ⟨r, hr⟩ := ih (x / 10) (strOfNums [(wrap64 (48 + (Int.tmod x 10))) % 256] ++ s) (by omega) (by omega) hl (by rw [ByteArray.size_append, strOne]; omega)
      refine ⟨r, Ev.up ?_⟩
      simp only [laws_markText.l0]
      refine Ev.pos hx ?_
      refine Ev.none_bind (Ev.pos (by rw [strOne]; omega) ?_)
      rw [hw]
      exact hr
    · refine ⟨(⟨#[109]⟩ : ByteArray) ++ s, Ev.up ?_⟩
      simp only [laws_markText.l0]
      exact Ev.neg hx (Ev.pos (by omega) (Ev.now _))
theorem markText_ex (a : Int) (hb : a ≤ 4611686018427387904) : ∃ r, Ev (fun k => laws_markText.f k a) r := by
  by_cases h : a ≤ 0
  · refine ⟨(⟨#[109, 48]⟩ : ByteArray), ?_⟩
    simp only [laws_markText.f]
    exact Ev.pos h (Ev.now _)
  · obtain ⟨r, hr⟩ := markLoop_ex 19 a ⟨#[]⟩ (by omega) hb (by omega) (by decide)
    refine ⟨r, ?_⟩
    simp only [laws_markText.f]
    exact Ev.neg h hr
open Classical in
/-- The text that marks k. -/
noncomputable def mt (a : Int) : ByteArray := if h : ∃ r, Ev (fun k => laws_markText.f k a) r then h.choose else ⟨#[]⟩
theorem mt_ev (a : Int) (hb : a ≤ 4611686018427387904) : Ev (fun k => laws_markText.f k a) (mt a) := by
  have h := markText_ex a hb
  unfold mt
  rw [dif_pos h]
  exact h.choose_spec
noncomputable def mtS (a : Int) : Nat → List ByteArray
  | 0 => []
  | n + 1 => mt a :: mtS (a + 1) n
theorem mtS_length : ∀ (n : Nat) (a : Int), (mtS a n).length = n
  | 0, _ => rfl
  | n + 1, a => by simp [mtS, mtS_length n]
theorem markLoopS_ev (xs : List ByteArray) (hx : xs.length ≤ 1048576) : ∀ (m i : Nat) (out : List ByteArray) (a : Int), i + m = xs.length → out.length = xs.length → 0 ≤ a → a + m ≤ 4611686018427387904 →
    Ev (fun k => laws_markStringS.l0 k out a (i : Int)) (a + m, out.take i ++ mtS a m) := by
  intro m
  induction m with
  | zero =>
    intro i out a hi hl h0 hb
    refine Ev.up ?_
    simp only [laws_markStringS.l0]
    refine Ev.neg (by omega) (Ev.const ?_)
    rw [List.take_of_length_le (by omega)]
    simp [mtS]
  | succ m ih =>
    intro i out a hi hl h0 hb
    refine Ev.up ?_
    simp only [laws_markStringS.l0]
    refine Ev.pos (by omega) (Ev.bind (mt_ev a (by omega)) (Ev.pos (by omega) ?_))
    rw [w1' (show i < xs.length by omega) hx, show wrap64 (a + 1) = a + 1 from w64 (by omega) (by omega)]
    refine Ev.eq (ih (i + 1) (out.set i (mt a)) (a + 1) (by omega) (by simpa using hl) (by omega) (by omega)) ?_
    rw [List.take_succ_eq_append_getElem (by simp; omega)]
    simp only [List.getElem_set_self, List.take_set_of_le (Nat.le_refl i), mtS, List.append_assoc, List.singleton_append, Prod.mk.injEq, and_true]
    omega
theorem markStringS_ev (xs : List ByteArray) (hx : xs.length ≤ 1048576) (a : Int) (h0 : 0 ≤ a) (hb : a + xs.length ≤ 4611686018427387904) : Ev (fun k => laws_markStringS.f k xs a) (a + xs.length, mtS a xs.length) := by
  simp only [laws_markStringS.f]
  simpa using markLoopS_ev xs hx xs.length 0 xs a (by omega) rfl h0 hb
theorem mtS_getD (d : ByteArray) : ∀ (n i : Nat) (a : Int), i < n → (mtS a n).getD i d = mt (a + i)
  | 0, i, _, h => by omega
  | n + 1, 0, a, _ => by simp [mtS]
  | n + 1, i + 1, a, h => by
    have := mtS_getD d n i (a + 1) (by omega)
    simp only [mtS, List.getD_cons_succ, this]
    congr 1
    omega
theorem heldStringS_ev (n : Nat) (hn : n ≤ 1048576) (a : Int) (h0 : 0 ≤ a) (hb : a + n ≤ 4611686018427387904) : Ev (fun k => laws_heldStringS.f k (mtS a n) a) (a + n) := by
  suffices h : ∀ (m i : Nat), i + m = n → Ev (fun k => laws_heldStringS.l0 k (mtS a n) (a + i) (i : Int)) (a + n) by
    simp only [laws_heldStringS.f]
    simpa using h n 0 (by omega)
  intro m
  induction m with
  | zero =>
    intro i hi
    refine Ev.up ?_
    simp only [laws_heldStringS.l0, mtS_length]
    exact Ev.neg (by omega) (Ev.const (by omega))
  | succ m ih =>
    intro i hi
    refine Ev.up ?_
    simp only [laws_heldStringS.l0, mtS_length]
    refine Ev.pos (by omega) (Ev.pos (by omega) (Ev.bind (mt_ev (a + i) (by omega)) (Ev.pos ?_ ?_)))
    · rw [rdOf_str, mtS_getD _ n i a (by omega)]
    · rw [w1' (show i < n by omega) hn, show wrap64 (a + i + 1) = a + ((i + 1 : Nat) : Int) from by rw [w64 (by omega) (by omega)]; omega]
      exact ih (i + 1) (by omega)
/-- markStringS at a row that it is given to write. -/
theorem markStringS_own (xs : List ByteArray) (hx : xs.length ≤ 1048576) (a : Int) (h0 : 0 ≤ a) (hb : a + xs.length ≤ 4611686018427387904) (v : Value) (ok : Nat → Prop) (w0 w : World) (hB : Below w0.heap.size w0 w) (ho : Kd.R Kd.string 9 w w0.heap.size ok v xs) :
    Calls Try.prog 55 #[v, .int .i64 a] w fun e w' => e = .returned (.int .i64 (a + xs.length)) ∧ Kd.R Kd.string 9 w' w0.heap.size ok v (mtS a xs.length) ∧ Below w0.heap.size w0 w' ∧ Kept w w' ok := by
  obtain ⟨K, hK⟩ := markStringS_ev xs hx a h0 hb
  refine (laws_markStringS.calls K ok v xs a _ _ w0 w hB ho (hK K (Nat.le_refl K))).mono ?_
  rintro e w' ⟨he, hr, hb', hk⟩
  exact ⟨he, Kd.R_reok rfl hr ho.1, hb', hk⟩
/-- markText. -/
theorem markText_own (a : Int) (hb : a ≤ 4611686018427387904) (w : World) : Calls Try.prog 101 #[.int .i64 a] w fun e w' => e = .returned (.string (mt a)) ∧ Below w.heap.size w w' := by
  obtain ⟨K, hK⟩ := mt_ev a hb
  exact laws_markText.calls K a _ w (hK K (Nat.le_refl K))

end Go.Proofs.Ytcgdaeaaimkhdaa.Py
end
section
namespace Go.Proofs.Ytcgdaeaaimkhdaa.Py
open Go.RowKit Go.Proofs.YtcgdaeaaimkhdaaW.PrintWords Go.Proofs.YtcgdaeaaimkhdaaW.PrintLast Go.Proofs.Ytcgdaeaaimkhdaa.Pl Go.Proofs.Ytcgdaeaaimkhdaa.Ext
set_option linter.unusedVariables false
set_option linter.unusedSimpArgs false
mutual
def cnValue : S70 → Nat
  | ⟨x0, x1, x2, x3⟩ => 2 + x2.length + cnValueS x3
def cnValueS : List S70 → Nat
  | [] => 0
  | x :: r => cnValue x + cnValueS r
end
mutual
noncomputable def mkValue : S70 → Int → S70
  | ⟨x0, x1, x2, x3⟩, a => ⟨a, a + 1, mtS (a + 2) x2.length, mkValueS x3 (a + 2 + (x2.length : Nat))⟩
noncomputable def mkValueS : List S70 → Int → List S70
  | [], _ => []
  | x :: r, a => mkValue x a :: mkValueS r (a + cnValue x)
end
theorem cnValue_eq (x : S70) : cnValue x = 2 + x.f2.length + cnValueS x.f3 := by cases x; simp only [cnValue]
theorem mkValue_eq (x : S70) (a : Int) : mkValue x a = ⟨a, a + 1, mtS (a + 2) x.f2.length, mkValueS x.f3 (a + 2 + (x.f2.length : Nat))⟩ := by cases x; simp only [mkValue]
theorem mkValueS_length : ∀ (xs : List S70) (a : Int), (mkValueS xs a).length = xs.length
  | [], _ => rfl
  | x :: r, a => by simp [mkValueS, mkValueS_length r]
theorem cnValueS_append : ∀ xs ys : List S70, cnValueS (xs ++ ys) = cnValueS xs + cnValueS ys
  | [], ys => by simp [cnValueS]
  | x :: r, ys => by simp only [List.cons_append, cnValueS, cnValueS_append r ys]; omega
theorem mkValueS_append : ∀ (xs ys : List S70) (a : Int), mkValueS (xs ++ ys) a = mkValueS xs a ++ mkValueS ys (a + cnValueS xs)
  | [], ys, a => by simp [mkValueS, cnValueS]
  | x :: r, ys, a => by
    simp only [List.cons_append, mkValueS, mkValueS_append r ys, cnValueS]
    rw [show a + cnValue x + (cnValueS r : Int) = a + ((cnValue x + cnValueS r : Nat) : Int) by omega]
theorem cnValueS_take (xs : List S70) (i : Nat) (h : i < xs.length) : cnValueS (xs.take (i + 1)) = cnValueS (xs.take i) + cnValue (xs.getD i z70) := by
  rw [List.take_succ_eq_append_getElem h, cnValueS_append]
  simp [cnValueS, List.getD_eq_getElem?_getD, h]
theorem cnValueS_take_le (xs : List S70) (i : Nat) : cnValueS (xs.take i) ≤ cnValueS xs := by
  have := cnValueS_append (xs.take i) (xs.drop i)
  rw [List.take_append_drop] at this
  omega
theorem mkValueS_step (xs : List S70) (i : Nat) (h : i < xs.length) (a : Int) : (mkValueS (xs.take i) a ++ xs.drop i).set i (mkValue (xs.getD i z70) (a + cnValueS (xs.take i))) = mkValueS (xs.take (i + 1)) a ++ xs.drop (i + 1) := by
  have hl : (mkValueS (xs.take i) a).length = i := by rw [mkValueS_length, List.length_take]; omega
  rw [List.set_append, if_neg (by omega), hl, Nat.sub_self, List.drop_eq_getElem_cons h, List.set_cons_zero, List.take_succ_eq_append_getElem h, mkValueS_append]
  simp [mkValueS, List.getD_eq_getElem?_getD, h]
theorem mkValueS_at (xs : List S70) (i : Nat) (h : i < xs.length) (a : Int) : (mkValueS (xs.take i) a ++ xs.drop i).getD i z70 = xs.getD i z70 := by
  have hl : (mkValueS (xs.take i) a).length = i := by rw [mkValueS_length, List.length_take]; omega
  rw [List.getD_eq_getElem?_getD, List.getElem?_append_right (by omega), hl, Nat.sub_self, List.getElem?_drop, Nat.add_zero, List.getD_eq_getElem?_getD]
theorem mkValueS_len (xs : List S70) (i : Nat) (a : Int) : (mkValueS (xs.take i) a ++ xs.drop i).length = xs.length := by
  rw [List.length_append, mkValueS_length, List.length_take, List.length_drop]; omega
/-- What markValueS does with the row xs. -/
def MarksValueS (xs : List S70) : Prop :=
  ∀ (a : Int) (v : Value) (ok : Nat → Prop) (w0 w : World), 0 ≤ a → a + cnValueS xs ≤ 4611686018427387000 → Below w0.heap.size w0 w → Kd.S k70 70 w w0.heap.size ok v xs →
    Calls Try.prog 35 #[v, .int .i64 a] w fun e w' => e = .returned (.int .i64 (a + cnValueS xs)) ∧ Kd.S k70 70 w' w0.heap.size ok v (mkValueS xs a) ∧ Below w0.heap.size w0 w' ∧ Kept w w' ok
theorem MarksValueS.go {xs : List S70} (h : MarksValueS xs) (a : Int) (v : Value) (ok : Nat → Prop) (w0 w : World) (h0 : 0 ≤ a) (hb : a + cnValueS xs ≤ 4611686018427387000) (hB : Below w0.heap.size w0 w) (ho : Kd.S k70 70 w w0.heap.size ok v xs) :
    Calls Try.prog 35 #[v, .int .i64 a] w fun e w' => e = .returned (.int .i64 (a + cnValueS xs)) ∧ Kd.S k70 70 w' w0.heap.size ok v (mkValueS xs a) ∧ Below w0.heap.size w0 w' ∧ Kept w w' ok := h a v ok w0 w h0 hb hB ho
set_option maxHeartbeats 8000000 in
set_option maxRecDepth 100000 in
theorem marksValueS_step (xs : List S70) (hn : xs.length ≤ 1048576) (hx : ∀ y ∈ xs, y.f2.length ≤ 1048576 ∧ MarksValueS y.f3) : MarksValueS xs := by
  intro a v ok w0 w h0 hb hB ho
  have HO := Aside0.mk ho
  have HB := Aside0.mk hB
  have HK := Aside0.mk (Kept.refl w ok)
  have HX := Aside0.mk hx
  have HA := Aside0.mk (And.intro h0 (And.intro hb hn))
  clear ho hB hx h0 hb hn
  go_enter Try.func35, Try.ntmps35
  go_wp2
  go_loopg [1, 5] xs.length (fun kq v1 v5 w' => ∃ (b i : Int) (L : List S70), v1 = .int .i64 b ∧ v5 = .int .i64 i ∧ Aside0 (0 ≤ i ∧ i + kq = xs.length ∧ b = a + cnValueS (xs.take i.toNat)) ∧ Aside0 (L = mkValueS (xs.take i.toNat) a ++ xs.drop i.toNat) ∧ Aside0 (Kd.S k70 70 w' w0.heap.size ok v L) ∧ Aside0 (Below w0.heap.size w0 w') ∧ Aside0 (Kept w w' ok))
  case atStart => exact ⟨a, 0, xs, rfl, rfl, ⟨by omega, by omega, by simp [cnValueS]⟩, ⟨by simp [mkValueS]⟩, HO, HB, HK⟩
  case round =>
    clear HO HB HK
    obtain ⟨b, i, L, rfl, rfl, HI, HLE, HO, HB, HK⟩ := hrel
    obtain ⟨Ao, co, eo⟩ := Kd.S_slice HO.out
    have hlen : L.length = xs.length := by rw [HLE.out]; exact mkValueS_len xs i.toNat a
    rw [hlen] at eo
    have HL := Aside0.mk hlen
    clear hlen
    subst eo
    by_cases hlt : i < (xs.length : Int)
    · have hd : decide (i < (xs.length : Int)) = true := decide_eq_true hlt
      have hi0 : (0 ≤ i) = True := eq_true HI.out.1
      have hi1 : (i < (xs.length : Int)) = True := eq_true hlt
      have HLT := Aside0.mk (show i.toNat < xs.length by have := HI.out.1; omega)
      obtain ⟨g, cap, eg, gb, gl, HG⟩ := Kd.S_form HO.out (by rw [HL.out]; have := HLT.out; omega)
      rw [HL.out] at eg
      injection eg with ea _ ec
      subst ea ec
      have GB := Aside0.mk gb
      clear gb gl HG
      obtain ⟨oki, c, hcl, hM, hcc, hfr, hoki, hH⟩ := Kd.S_elem HO.out z70 i HI.out.1 (by exact hlt)
      rw [HLE.out, mkValueS_at xs i.toNat HLT.out a] at hM
      generalize hxe : xs.getD i.toNat z70 = x at hM
      have HXE := Aside0.mk hxe
      have hxm : x ∈ xs := by rw [← hxe]; exact mem_getD xs z70 _ HLT.out
      have HXL := Aside0.mk (HX.out x hxm)
      clear hxe hxm
      obtain ⟨v2, v3, o2, o3, rfl, s2, s3, d12, g2, g3⟩ := k70_openA hM
      have HH := Aside0.mk hH
      have H2 := Aside0.mk g2
      have HS2 := Aside0.mk s2
      have H3 := Aside0.mk g3
      have HS3 := Aside0.mk s3
      have HD := Aside0.mk d12
      have HOK := Aside0.mk (show ok g from (Kd.S_R HO.out).1 g rfl)
      have HOI := Aside0.mk hoki
      have HLT2 := Aside0.mk hlt
      have HE := Aside0.mk (show b + cnValue x ≤ a + cnValueS xs ∧ b = a + cnValueS (xs.take i.toNat) ∧ 0 ≤ b ∧ 0 ≤ a ∧ a + cnValueS xs ≤ 4611686018427387000 by
        have e1 := cnValueS_take xs i.toNat HLT.out
        have e2 := cnValueS_take_le xs (i.toNat + 1)
        rw [HXE.out] at e1
        have := HI.out; have := HA.out
        refine ⟨by omega, by omega, by omega, by omega, by omega⟩)
      have HW1 := Aside0.mk (show wrap64 (b + 1) = b + 1 by have := HE.out; have := cnValue_eq x; unfold wrap64; omega)
      have HW2 := Aside0.mk (show wrap64 (wrap64 (b + 1) + 1) = b + 2 by rw [HW1.out]; have := HE.out; have := cnValue_eq x; unfold wrap64; omega)
      have HV2 := Aside0.mk (show wrap64 (b + 1 + 1) = b + 2 by have := HE.out; have := cnValue_eq x; unfold wrap64; omega)
      clear hcl hM hcc hfr hoki hH hlt HO s2 g2 s3 g3 d12
      have hx : wr.cell? ⟨g, i.toNat * 4, none⟩ = some (.int .i64 x.f0) := (Ow.H_cells HH.out HI.out.1 HLT2.out).1 0 _ rfl
      have hf : wr.frozen? ⟨g, i.toNat * 4, none⟩ = false := (Ow.H_cells HH.out HI.out.1 HLT2.out).2 0
      go_wp2_with (first
        | ((with_reducible refine gate_store (t := 3) (p := 16) rfl ?_)
           refine store_event (t := 3) (p := 16) (v := ?vo_w3) (w1 := (wr.setCell ⟨g, i.toNat * 4, none⟩ (.int .i64 b))) ?hg ?ho ?hn ?hr ?_; (case ho => rfl); (case hg => rfl); (case hn => rfl); (case hr => first | (go_simp; done) | (go_simp; rfl)); intro w3 hw
           have hseg := Kd.H_seg HH.out HI.out.1 HLT2.out (seg := [.int .i64 b]) (j := 0) (show 0 + 1 ≤ 4 by decide) (fun q hq => by rw [List.mem_singleton.1 hq]; rfl)
           have hg : wr.grownBy w3 (some g) := by rw [hw]; exact hseg.2
           have n0 := (show Kd.H k70 70 w3 w0.heap.size ok (.slice (some ⟨g, 0, none⟩) xs.length co) L i oki [.int .i64 b, .int .i64 x.f1, v2, v3] by rw [hw]; exact hseg.1)
           have n1 := Kd.R_grown H2.out hg (fun k hk e => (HOI.out k (HS2.out k hk)).2 (by injection e))
           have n2 := Kd.S_grown H3.out hg (fun k hk e => (HOI.out k (HS3.out k hk)).2 (by injection e))
           have n3 := (show Below w0.heap.size w0 w3 by rw [hw]; exact below_set HB.out GB.out)
           have n4 := Kept.of_grown hg HK.out (fun k e => .inl (by injection e with e; exact e ▸ HOK.out))
           clear HH H2 H3 HB HK
           (try clear hx)
           (try clear hf)
           have HH := Aside0.mk n0; have H2 := Aside0.mk n1; have H3 := Aside0.mk n2; have HB := Aside0.mk n3; have HK := Aside0.mk n4
           clear n0 n1 n2 n3 n4
           clear hw hg hseg
           have hx : w3.cell? ⟨g, i.toNat * 4 + 1, none⟩ = some (.int .i64 x.f1) := (Ow.H_cells HH.out HI.out.1 HLT2.out).1 1 _ rfl
           have hf : w3.frozen? ⟨g, i.toNat * 4 + 1, none⟩ = false := (Ow.H_cells HH.out HI.out.1 HLT2.out).2 1)
        | ((with_reducible refine gate_store (t := 3) (p := 23) rfl ?_)
           refine store_event (t := 3) (p := 23) (v := ?vo_w4) (w1 := (w3.setCell ⟨g, i.toNat * 4 + 1, none⟩ (.int .i64 (wrap64 (b + 1))))) ?hg ?ho ?hn ?hr ?_; (case ho => rfl); (case hg => rfl); (case hn => rfl); (case hr => first | (go_simp; done) | (go_simp; rfl)); intro w4 hw
           have hseg := Kd.H_seg HH.out HI.out.1 HLT2.out (seg := [.int .i64 (wrap64 (b + 1))]) (j := 1) (show 1 + 1 ≤ 4 by decide) (fun q hq => by rw [List.mem_singleton.1 hq]; rfl)
           have hg : w3.grownBy w4 (some g) := by rw [hw]; exact hseg.2
           have n0 := (show Kd.H k70 70 w4 w0.heap.size ok (.slice (some ⟨g, 0, none⟩) xs.length co) L i oki [.int .i64 b, .int .i64 (wrap64 (b + 1)), v2, v3] by rw [hw]; exact hseg.1)
           have n1 := Kd.R_grown H2.out hg (fun k hk e => (HOI.out k (HS2.out k hk)).2 (by injection e))
           have n2 := Kd.S_grown H3.out hg (fun k hk e => (HOI.out k (HS3.out k hk)).2 (by injection e))
           have n3 := (show Below w0.heap.size w0 w4 by rw [hw]; exact below_set HB.out GB.out)
           have n4 := Kept.of_grown hg HK.out (fun k e => .inl (by injection e with e; exact e ▸ HOK.out))
           clear HH H2 H3 HB HK
           (try clear hx)
           (try clear hf)
           have HH := Aside0.mk n0; have H2 := Aside0.mk n1; have H3 := Aside0.mk n2; have HB := Aside0.mk n3; have HK := Aside0.mk n4
           clear n0 n1 n2 n3 n4
           clear hw hg hseg
           have hx : w4.cell? ⟨g, i.toNat * 4 + 2, none⟩ = some (v2) := (Ow.H_cells HH.out HI.out.1 HLT2.out).1 2 _ rfl)
        | ((with_reducible refine gate_callee (f := 55) rfl ?_)
           refine goesL_ (some 32) rfl rfl Try.func55 (by kernel_rfl) rfl #[v2, .int .i64 (wrap64 (wrap64 (b + 1) + 1))] rfl (by (try simp only [List.map_toArray, List.map_cons, List.map_nil]); first | done | rfl) ?_
           (with_reducible refine (markStringS_own x.f2 HXL.out.1 (wrap64 (wrap64 (b + 1) + 1)) (by rw [HW2.out]; have := HE.out; omega) (by rw [HW2.out]; have := HE.out; have := cnValue_eq x; omega) v2 o2 w0 _ HB.out H2.out).mono ?_)
           rintro e w5 ⟨rfl, hr, hb, hk⟩
           refine ⟨_, rfl, ?_⟩
           have n0 := Kd.H_kept HH.out hk (fun k hk hn h1 => hn (HS2.out k h1))
           have n1 := hr
           have n2 := Kd.S_kept H3.out hk (fun k hk h1 => HD.out k h1 hk)
           have n3 := hb
           have n4 := HK.out.then_ hk (fun k h1 => .inl (HOI.out k (HS2.out k h1)).1)
           clear HH H2 H3 HB HK
           (try clear hx)
           (try clear hf)
           have HH := Aside0.mk n0; have H2 := Aside0.mk n1; have H3 := Aside0.mk n2; have HB := Aside0.mk n3; have HK := Aside0.mk n4
           clear n0 n1 n2 n3 n4
           clear hr hb hk
           have hx : w5.cell? ⟨g, i.toNat * 4 + 3, none⟩ = some (v3) := (Ow.H_cells HH.out HI.out.1 HLT2.out).1 3 _ rfl)
        | ((with_reducible refine gate_callee (f := 35) rfl ?_)
           refine goesL_ (some 39) rfl rfl Try.func35 (by kernel_rfl) rfl #[v3, .int .i64 (wrap64 (wrap64 (b + 1) + 1) + (x.f2.length : Nat))] rfl (by (try simp only [List.map_toArray, List.map_cons, List.map_nil]); first | done | rfl) ?_
           (with_reducible refine (MarksValueS.go HXL.out.2 (wrap64 (wrap64 (b + 1) + 1) + (x.f2.length : Nat)) v3 o3 w0 _ (by rw [HW2.out]; have := HE.out; omega) (by rw [HW2.out]; have := HE.out; have := cnValue_eq x; omega) HB.out H3.out).mono ?_)
           rintro e w6 ⟨rfl, hr, hb, hk⟩
           refine ⟨_, rfl, ?_⟩
           have n0 := Kd.H_kept HH.out hk (fun k hk hn h1 => hn (HS3.out k h1))
           have n1 := Kd.R_kept H2.out hk (fun k hk h1 => HD.out k hk h1)
           have n2 := hr
           have n3 := hb
           have n4 := HK.out.then_ hk (fun k h1 => .inl (HOI.out k (HS3.out k h1)).1)
           clear HH H2 H3 HB HK
           (try clear hx)
           (try clear hf)
           have HH := Aside0.mk n0; have H2 := Aside0.mk n1; have H3 := Aside0.mk n2; have HB := Aside0.mk n3; have HK := Aside0.mk n4
           clear n0 n1 n2 n3 n4
           clear hr hb hk))
      obtain ⟨k1, rfl⟩ : ∃ m, gk = m + 1 := ⟨gk - 1, by have := HI.out; have := HLT2.out; omega⟩
      go_roundg k1
      case measure => omega
      case rel =>
        have hM2 := k70_mkA _ w0.heap.size oki (⟨b, wrap64 (b + 1), mtS (wrap64 (wrap64 (b + 1) + 1)) x.f2.length, mkValueS x.f3 (wrap64 (wrap64 (b + 1) + 1) + (x.f2.length : Nat))⟩ : S70) (Kd.R_mono H2.out HS2.out) (Kd.S_mono H3.out (fun k hk => ⟨HS3.out k hk, fun e => HD.out k (H2.out.1 k e.symm) hk⟩))
        have hS := Kd.H_back HH.out hM2 (fun _ hk => hk)
        have hz : i.toNat + 1 = (wrap64 (i + 1)).toNat := by have := HI.out; have := HLT2.out; have := HA.out; unfold wrap64; omega
        have hw1 : wrap64 (i + 1) = i + 1 := by have := HI.out; have := HLT2.out; have := HA.out; unfold wrap64; omega
        refine ⟨wrap64 (wrap64 (b + 1) + 1) + (x.f2.length : Nat) + (cnValueS x.f3 : Nat), wrap64 (i + 1), _, rfl, rfl, ⟨by omega, ?_, ?_⟩, ⟨?_⟩, ⟨hS⟩, HB, HK⟩
        · have := HI.out; have := HLT2.out; omega
        · rw [← hz, cnValueS_take xs i.toNat HLT.out, HXE.out, cnValue_eq]; (try simp only [HW1.out, HV2.out]); have := HE.out; omega
        · rw [← hz, ← mkValueS_step xs i.toNat HLT.out a, HXE.out, mkValue_eq, ← HE.out.2.1, HLE.out]; (try simp only [HW1.out, HV2.out])
    · have hd : decide (i < (xs.length : Int)) = false := decide_eq_false hlt
      have HT := Aside0.mk (show i.toNat = xs.length by have := HI.out; omega)
      clear hlt
      go_wp2
      go_ret
      refine ⟨?_, ?_, HB.out, HK.out⟩
      · rw [HI.out.2.2, HT.out, List.take_of_length_le (Nat.le_refl _)]
        rfl
      · have := HO.out
        rw [HLE.out, HT.out, List.take_of_length_le (Nat.le_refl _), List.drop_of_length_le (Nat.le_refl _), List.append_nil] at this
        exact this
/-- All rows inside are short. -/
inductive LnValue : S70 → Prop
  | mk {x : S70} : x.f2.length ≤ 1048576 → x.f3.length ≤ 1048576 → (∀ y ∈ x.f3, LnValue y) → LnValue x
theorem LnValue.all {x : S70} (h : LnValue x) : x.f2.length ≤ 1048576 ∧ x.f3.length ≤ 1048576 ∧ ∀ y ∈ x.f3, LnValue y := by cases h; exact ⟨by assumption, by assumption, by assumption⟩
theorem marksValue_in : ∀ x : S70, LnValue x → MarksValueS x.f3 := by
  refine indValueI fun x ih hx => ?_
  exact marksValueS_step x.f3 hx.all.2.1 (fun y hy => ⟨(hx.all.2.2 y hy).all.1, ih y hy (hx.all.2.2 y hy)⟩)
theorem marksValueS (xs : List S70) (hn : xs.length ≤ 1048576) (hx : ∀ y ∈ xs, LnValue y) : MarksValueS xs := marksValueS_step xs hn (fun y hy => ⟨(hx y hy).all.1, marksValue_in y (hx y hy)⟩)
theorem lnValue_of : ∀ x : S70, SmValue x → LnValue x := by
  refine indValueI fun x ih hx => ?_
  exact LnValue.mk hx.p2.1 hx.p3.1 (fun y hy => ih y hy (hx.p3.2 y hy))
theorem mkValueS_getD : ∀ (xs : List S70) (i : Nat) (a : Int), i < xs.length → (mkValueS xs a).getD i z70 = mkValue (xs.getD i z70) (a + cnValueS (xs.take i))
  | [], i, _, h => absurd h (by simp)
  | x :: r, 0, a, _ => by simp [mkValueS, cnValueS]
  | x :: r, i + 1, a, h => by
    have := mkValueS_getD r i (a + cnValue x) (by simpa using h)
    simp only [mkValueS, List.getD_cons_succ, List.take_succ_cons, cnValueS, this]
    congr 1
    omega
theorem heldValueS_step (xs : List S70) (hn : xs.length ≤ 1048576) (hx : ∀ y ∈ xs, y.f2.length ≤ 1048576 ∧ (∀ a : Int, 0 ≤ a → a + cnValueS y.f3 ≤ 4611686018427387000 → Ev (fun k => laws_heldValueS.f k (mkValueS y.f3 a) a) (a + cnValueS y.f3))) (a : Int) (h0 : 0 ≤ a) (hb : a + cnValueS xs ≤ 4611686018427387000) : Ev (fun k => laws_heldValueS.f k (mkValueS xs a) a) (a + cnValueS xs) := by
  suffices h : ∀ m i, i + m = xs.length → Ev (fun k => laws_heldValueS.l0 k (mkValueS xs a) (a + cnValueS (xs.take i)) (i : Int)) (a + cnValueS xs) by
    have := h xs.length 0 (by omega)
    first
    | (refine Ev.up ?_; simp only [laws_heldValueS.f]; simpa [cnValueS] using this)
    | (simp only [laws_heldValueS.f]; simpa [cnValueS] using this)
  intro m
  induction m with
  | zero =>
    intro i hi
    refine Ev.up ?_
    simp only [laws_heldValueS.l0, mkValueS_length]
    refine Ev.neg (by omega) (Ev.const ?_)
    rw [List.take_of_length_le (by omega)]
  | succ m ih =>
    intro i hi
    have hlt : i < xs.length := by omega
    have e1 := cnValueS_take xs i hlt
    have e2 := cnValueS_take_le xs (i + 1)
    have hg : rd_T70 (mkValueS xs a) (i : Int) = mkValue (xs.getD i z70) (a + cnValueS (xs.take i)) := mkValueS_getD xs i a hlt
    have hh := hx _ (mem_getD xs z70 i hlt)
    have ih2 := ih (i + 1) (by omega)
    rw [e1] at ih2
    generalize xs.getD i z70 = y at hg hh e1 ih2
    have e3 := cnValue_eq y
    generalize hbb : a + (cnValueS (xs.take i) : Int) = b at hg
    have hbe : b + cnValue y ≤ a + cnValueS xs ∧ 0 ≤ b := ⟨by omega, by omega⟩
    refine Ev.up ?_
    simp only [laws_heldValueS.l0, mkValueS_length, hg, mkValue_eq]
    refine Ev.pos (by omega) (Ev.pos (by omega) ?_)
    have v1 : wrap64 (b + 1) = b + 1 := (w64 (by omega) (by omega)).trans (by omega)
    have v2 : wrap64 ((b + 1) + 1) = b + 2 := (w64 (by omega) (by omega)).trans (by omega)
    simp only [v1, v2]
    refine Ev.pos (by first | exact trivial | rfl) ?_
    refine Ev.pos (by first | exact trivial | rfl) ?_
    refine Ev.bind (heldStringS_ev y.f2.length hh.1 (b + 2) (by omega) (by omega)) (Ev.neg (by omega) ?_)
    refine Ev.bind (hh.2 ((b + 2) + (y.f2.length : Nat)) (by omega) (by omega)) (Ev.neg (by omega) ?_)
    rw [w1' hlt hn]
    rw [show b + 2 + (y.f2.length : Nat) + (cnValueS y.f3 : Nat) = a + ((cnValueS (xs.take i) + cnValue y : Nat) : Int) by omega]
    exact ih2
theorem heldValue_in : ∀ x : S70, LnValue x → ∀ a : Int, 0 ≤ a → a + cnValueS x.f3 ≤ 4611686018427387000 → Ev (fun k => laws_heldValueS.f k (mkValueS x.f3 a) a) (a + cnValueS x.f3) := by
  refine indValueI fun x ih hx => ?_
  exact heldValueS_step x.f3 hx.all.2.1 (fun y hy => ⟨(hx.all.2.2 y hy).all.1, ih y hy (hx.all.2.2 y hy)⟩)
theorem heldValueS_ev (xs : List S70) (hn : xs.length ≤ 1048576) (hx : ∀ y ∈ xs, LnValue y) (a : Int) (h0 : 0 ≤ a) (hb : a + cnValueS xs ≤ 4611686018427387000) : Ev (fun k => laws_heldValueS.f k (mkValueS xs a) a) (a + cnValueS xs) := heldValueS_step xs hn (fun y hy => ⟨(hx y hy).all.1, heldValue_in y (hx y hy)⟩) a h0 hb
end Go.Proofs.Ytcgdaeaaimkhdaa.Py
end
section
namespace Go.Proofs.Ytcgdaeaaimkhdaa.Py
open Go.RowKit Go.Proofs.YtcgdaeaaimkhdaaW.PrintWords Go.Proofs.YtcgdaeaaimkhdaaW.PrintLast Go.Proofs.Ytcgdaeaaimkhdaa.Pl Go.Proofs.Ytcgdaeaaimkhdaa.Ext
set_option linter.unusedVariables false
set_option linter.unusedSimpArgs false
def cnTableData (x : S107) : Nat := 1 + cnValueS x.f1
noncomputable def mkTableData (x : S107) (a : Int) : S107 := ⟨mt (a), mkValueS x.f1 (a + 1)⟩
def cnTableDataS : List S107 → Nat
  | [] => 0
  | x :: r => cnTableData x + cnTableDataS r
noncomputable def mkTableDataS : List S107 → Int → List S107
  | [], _ => []
  | x :: r, a => mkTableData x a :: mkTableDataS r (a + cnTableData x)
theorem cnTableData_eq (x : S107) : cnTableData x = 1 + cnValueS x.f1 := rfl
theorem mkTableData_eq (x : S107) (a : Int) : mkTableData x a = ⟨mt (a), mkValueS x.f1 (a + 1)⟩ := rfl
theorem mkTableDataS_length : ∀ (xs : List S107) (a : Int), (mkTableDataS xs a).length = xs.length
  | [], _ => rfl
  | x :: r, a => by simp [mkTableDataS, mkTableDataS_length r]
theorem cnTableDataS_append : ∀ xs ys : List S107, cnTableDataS (xs ++ ys) = cnTableDataS xs + cnTableDataS ys
  | [], ys => by simp [cnTableDataS]
  | x :: r, ys => by simp only [List.cons_append, cnTableDataS, cnTableDataS_append r ys]; omega
theorem mkTableDataS_append : ∀ (xs ys : List S107) (a : Int), mkTableDataS (xs ++ ys) a = mkTableDataS xs a ++ mkTableDataS ys (a + cnTableDataS xs)
  | [], ys, a => by simp [mkTableDataS, cnTableDataS]
  | x :: r, ys, a => by
    simp only [List.cons_append, mkTableDataS, mkTableDataS_append r ys, cnTableDataS]
    rw [show a + cnTableData x + (cnTableDataS r : Int) = a + ((cnTableData x + cnTableDataS r : Nat) : Int) by omega]
theorem cnTableDataS_take (xs : List S107) (i : Nat) (h : i < xs.length) : cnTableDataS (xs.take (i + 1)) = cnTableDataS (xs.take i) + cnTableData (xs.getD i z107) := by
  rw [List.take_succ_eq_append_getElem h, cnTableDataS_append]
  simp [cnTableDataS, List.getD_eq_getElem?_getD, h]
theorem cnTableDataS_take_le (xs : List S107) (i : Nat) : cnTableDataS (xs.take i) ≤ cnTableDataS xs := by
  have := cnTableDataS_append (xs.take i) (xs.drop i)
  rw [List.take_append_drop] at this
  omega
theorem mkTableDataS_step (xs : List S107) (i : Nat) (h : i < xs.length) (a : Int) : (mkTableDataS (xs.take i) a ++ xs.drop i).set i (mkTableData (xs.getD i z107) (a + cnTableDataS (xs.take i))) = mkTableDataS (xs.take (i + 1)) a ++ xs.drop (i + 1) := by
  have hl : (mkTableDataS (xs.take i) a).length = i := by rw [mkTableDataS_length, List.length_take]; omega
  rw [List.set_append, if_neg (by omega), hl, Nat.sub_self, List.drop_eq_getElem_cons h, List.set_cons_zero, List.take_succ_eq_append_getElem h, mkTableDataS_append]
  simp [mkTableDataS, List.getD_eq_getElem?_getD, h]
theorem mkTableDataS_at (xs : List S107) (i : Nat) (h : i < xs.length) (a : Int) : (mkTableDataS (xs.take i) a ++ xs.drop i).getD i z107 = xs.getD i z107 := by
  have hl : (mkTableDataS (xs.take i) a).length = i := by rw [mkTableDataS_length, List.length_take]; omega
  rw [List.getD_eq_getElem?_getD, List.getElem?_append_right (by omega), hl, Nat.sub_self, List.getElem?_drop, Nat.add_zero, List.getD_eq_getElem?_getD]
theorem mkTableDataS_len (xs : List S107) (i : Nat) (a : Int) : (mkTableDataS (xs.take i) a ++ xs.drop i).length = xs.length := by
  rw [List.length_append, mkTableDataS_length, List.length_take, List.length_drop]; omega
/-- What markTableDataS does with the row xs. -/
def MarksTableDataS (xs : List S107) : Prop :=
  ∀ (a : Int) (v : Value) (ok : Nat → Prop) (w0 w : World), 0 ≤ a → a + cnTableDataS xs ≤ 4611686018427387000 → Below w0.heap.size w0 w → Kd.S k107 107 w w0.heap.size ok v xs →
    Calls Try.prog 77 #[v, .int .i64 a] w fun e w' => e = .returned (.int .i64 (a + cnTableDataS xs)) ∧ Kd.S k107 107 w' w0.heap.size ok v (mkTableDataS xs a) ∧ Below w0.heap.size w0 w' ∧ Kept w w' ok
theorem MarksTableDataS.go {xs : List S107} (h : MarksTableDataS xs) (a : Int) (v : Value) (ok : Nat → Prop) (w0 w : World) (h0 : 0 ≤ a) (hb : a + cnTableDataS xs ≤ 4611686018427387000) (hB : Below w0.heap.size w0 w) (ho : Kd.S k107 107 w w0.heap.size ok v xs) :
    Calls Try.prog 77 #[v, .int .i64 a] w fun e w' => e = .returned (.int .i64 (a + cnTableDataS xs)) ∧ Kd.S k107 107 w' w0.heap.size ok v (mkTableDataS xs a) ∧ Below w0.heap.size w0 w' ∧ Kept w w' ok := h a v ok w0 w h0 hb hB ho
set_option maxHeartbeats 8000000 in
set_option maxRecDepth 100000 in
theorem marksTableDataS_step (xs : List S107) (hn : xs.length ≤ 1048576) (hx : ∀ y ∈ xs, MarksValueS y.f1) : MarksTableDataS xs := by
  intro a v ok w0 w h0 hb hB ho
  have HO := Aside0.mk ho
  have HB := Aside0.mk hB
  have HK := Aside0.mk (Kept.refl w ok)
  have HX := Aside0.mk hx
  have HA := Aside0.mk (And.intro h0 (And.intro hb hn))
  clear ho hB hx h0 hb hn
  go_enter Try.func77, Try.ntmps77
  go_wp2
  go_loopg [1, 5] xs.length (fun kq v1 v5 w' => ∃ (b i : Int) (L : List S107), v1 = .int .i64 b ∧ v5 = .int .i64 i ∧ Aside0 (0 ≤ i ∧ i + kq = xs.length ∧ b = a + cnTableDataS (xs.take i.toNat)) ∧ Aside0 (L = mkTableDataS (xs.take i.toNat) a ++ xs.drop i.toNat) ∧ Aside0 (Kd.S k107 107 w' w0.heap.size ok v L) ∧ Aside0 (Below w0.heap.size w0 w') ∧ Aside0 (Kept w w' ok))
  case atStart => exact ⟨a, 0, xs, rfl, rfl, ⟨by omega, by omega, by simp [cnTableDataS]⟩, ⟨by simp [mkTableDataS]⟩, HO, HB, HK⟩
  case round =>
    clear HO HB HK
    obtain ⟨b, i, L, rfl, rfl, HI, HLE, HO, HB, HK⟩ := hrel
    obtain ⟨Ao, co, eo⟩ := Kd.S_slice HO.out
    have hlen : L.length = xs.length := by rw [HLE.out]; exact mkTableDataS_len xs i.toNat a
    rw [hlen] at eo
    have HL := Aside0.mk hlen
    clear hlen
    subst eo
    by_cases hlt : i < (xs.length : Int)
    · have hd : decide (i < (xs.length : Int)) = true := decide_eq_true hlt
      have hi0 : (0 ≤ i) = True := eq_true HI.out.1
      have hi1 : (i < (xs.length : Int)) = True := eq_true hlt
      have HLT := Aside0.mk (show i.toNat < xs.length by have := HI.out.1; omega)
      obtain ⟨g, cap, eg, gb, gl, HG⟩ := Kd.S_form HO.out (by rw [HL.out]; have := HLT.out; omega)
      rw [HL.out] at eg
      injection eg with ea _ ec
      subst ea ec
      have GB := Aside0.mk gb
      clear gb gl HG
      obtain ⟨oki, c, hcl, hM, hcc, hfr, hoki, hH⟩ := Kd.S_elem HO.out z107 i HI.out.1 (by exact hlt)
      rw [HLE.out, mkTableDataS_at xs i.toNat HLT.out a] at hM
      generalize hxe : xs.getD i.toNat z107 = x at hM
      have HXE := Aside0.mk hxe
      have hxm : x ∈ xs := by rw [← hxe]; exact mem_getD xs z107 _ HLT.out
      have HXL := Aside0.mk (HX.out x hxm)
      clear hxe hxm
      obtain ⟨v1, rfl, g1⟩ := k107_openM hM
      have s1 : ∀ k, oki k → oki k := fun _ h => h
      have HH := Aside0.mk hH
      have H1 := Aside0.mk g1
      have HS1 := Aside0.mk s1
      have HOK := Aside0.mk (show ok g from (Kd.S_R HO.out).1 g rfl)
      have HOI := Aside0.mk hoki
      have HLT2 := Aside0.mk hlt
      have HE := Aside0.mk (show b + cnTableData x ≤ a + cnTableDataS xs ∧ b = a + cnTableDataS (xs.take i.toNat) ∧ 0 ≤ b ∧ 0 ≤ a ∧ a + cnTableDataS xs ≤ 4611686018427387000 by
        have e1 := cnTableDataS_take xs i.toNat HLT.out
        have e2 := cnTableDataS_take_le xs (i.toNat + 1)
        rw [HXE.out] at e1
        have := HI.out; have := HA.out
        refine ⟨by omega, by omega, by omega, by omega, by omega⟩)
      have HW1 := Aside0.mk (show wrap64 (b + 1) = b + 1 by have := HE.out; have := cnTableData_eq x; unfold wrap64; omega)
      clear hcl hM hcc hfr hoki hH hlt HO s1 g1
      go_wp2_with (first
        | ((with_reducible refine gate_callee (f := 101) rfl ?_)
           refine goesL_ (some 15) rfl rfl Try.func101 (by kernel_rfl) rfl #[.int .i64 b] rfl (by (try simp only [List.map_toArray, List.map_cons, List.map_nil]); first | done | rfl) ?_
           (with_reducible refine (markText_own (b) (by have := HE.out; have := cnTableData_eq x; omega) _).mono ?_)
           rintro e w3 ⟨rfl, hb⟩
           refine ⟨_, rfl, ?_⟩
           have n0 := Kd.H_below HH.out hb
           have n1 := Kd.S_below H1.out hb
           have n2 := below_step HB.out hb
           have n3 := Kept.below HK.out hb
           clear HH H1 HB HK
           (try clear hx)
           (try clear hf)
           have HH := Aside0.mk n0; have H1 := Aside0.mk n1; have HB := Aside0.mk n2; have HK := Aside0.mk n3
           clear n0 n1 n2 n3
           clear hb
           have hx : w3.cell? ⟨g, i.toNat * 2, none⟩ = some (.string x.f0) := (Ow.H_cells HH.out HI.out.1 HLT2.out).1 0 _ rfl
           have hf : w3.frozen? ⟨g, i.toNat * 2, none⟩ = false := (Ow.H_cells HH.out HI.out.1 HLT2.out).2 0)
        | ((with_reducible refine gate_store (t := 9) (p := 17) rfl ?_)
           refine store_event (t := 9) (p := 17) (v := ?vo_w4) (w1 := (w3.setCell ⟨g, i.toNat * 2, none⟩ (.string (mt (b))))) ?hg ?ho ?hn ?hr ?_; (case ho => rfl); (case hg => rfl); (case hn => rfl); (case hr => first | (go_simp; done) | (go_simp; rfl)); intro w4 hw
           have hseg := Kd.H_seg HH.out HI.out.1 HLT2.out (seg := [.string (mt (b))]) (j := 0) (show 0 + 1 ≤ 2 by decide) (fun q hq => by rw [List.mem_singleton.1 hq]; rfl)
           have hg : w3.grownBy w4 (some g) := by rw [hw]; exact hseg.2
           have n0 := (show Kd.H k107 107 w4 w0.heap.size ok (.slice (some ⟨g, 0, none⟩) xs.length co) L i oki [.string (mt (b)), v1] by rw [hw]; exact hseg.1)
           have n1 := Kd.S_grown H1.out hg (fun k hk e => (HOI.out k (HS1.out k hk)).2 (by injection e))
           have n2 := (show Below w0.heap.size w0 w4 by rw [hw]; exact below_set HB.out GB.out)
           have n3 := Kept.of_grown hg HK.out (fun k e => .inl (by injection e with e; exact e ▸ HOK.out))
           clear HH H1 HB HK
           (try clear hx)
           (try clear hf)
           have HH := Aside0.mk n0; have H1 := Aside0.mk n1; have HB := Aside0.mk n2; have HK := Aside0.mk n3
           clear n0 n1 n2 n3
           clear hw hg hseg
           have hx : w4.cell? ⟨g, i.toNat * 2 + 1, none⟩ = some (v1) := (Ow.H_cells HH.out HI.out.1 HLT2.out).1 1 _ rfl)
        | ((with_reducible refine gate_callee (f := 35) rfl ?_)
           refine goesL_ (some 26) rfl rfl Try.func35 (by kernel_rfl) rfl #[v1, .int .i64 (wrap64 (b + 1))] rfl (by (try simp only [List.map_toArray, List.map_cons, List.map_nil]); first | done | rfl) ?_
           (with_reducible refine (MarksValueS.go HXL.out (wrap64 (b + 1)) v1 oki w0 _ (by rw [HW1.out]; have := HE.out; omega) (by rw [HW1.out]; have := HE.out; have := cnTableData_eq x; omega) HB.out H1.out).mono ?_)
           rintro e w5 ⟨rfl, hr, hb, hk⟩
           refine ⟨_, rfl, ?_⟩
           have n0 := Kd.H_kept HH.out hk (fun k hk hn h1 => hn (HS1.out k h1))
           have n1 := hr
           have n2 := hb
           have n3 := HK.out.then_ hk (fun k h1 => .inl (HOI.out k (HS1.out k h1)).1)
           clear HH H1 HB HK
           (try clear hx)
           (try clear hf)
           have HH := Aside0.mk n0; have H1 := Aside0.mk n1; have HB := Aside0.mk n2; have HK := Aside0.mk n3
           clear n0 n1 n2 n3
           clear hr hb hk))
      obtain ⟨k1, rfl⟩ : ∃ m, gk = m + 1 := ⟨gk - 1, by have := HI.out; have := HLT2.out; omega⟩
      go_roundg k1
      case measure => omega
      case rel =>
        have hM2 := k107_mkA _ w0.heap.size oki (⟨mt (b), mkValueS x.f1 (wrap64 (b + 1))⟩ : S107) (Kd.S_mono H1.out HS1.out)
        have hS := Kd.H_back HH.out hM2 (fun _ hk => hk)
        have hz : i.toNat + 1 = (wrap64 (i + 1)).toNat := by have := HI.out; have := HLT2.out; have := HA.out; unfold wrap64; omega
        have hw1 : wrap64 (i + 1) = i + 1 := by have := HI.out; have := HLT2.out; have := HA.out; unfold wrap64; omega
        refine ⟨wrap64 (b + 1) + (cnValueS x.f1 : Nat), wrap64 (i + 1), _, rfl, rfl, ⟨by omega, ?_, ?_⟩, ⟨?_⟩, ⟨hS⟩, HB, HK⟩
        · have := HI.out; have := HLT2.out; omega
        · rw [← hz, cnTableDataS_take xs i.toNat HLT.out, HXE.out, cnTableData_eq]; (try simp only [HW1.out]); have := HE.out; omega
        · rw [← hz, ← mkTableDataS_step xs i.toNat HLT.out a, HXE.out, mkTableData_eq, ← HE.out.2.1, HLE.out]; (try simp only [HW1.out])
    · have hd : decide (i < (xs.length : Int)) = false := decide_eq_false hlt
      have HT := Aside0.mk (show i.toNat = xs.length by have := HI.out; omega)
      clear hlt
      go_wp2
      go_ret
      refine ⟨?_, ?_, HB.out, HK.out⟩
      · rw [HI.out.2.2, HT.out, List.take_of_length_le (Nat.le_refl _)]
        rfl
      · have := HO.out
        rw [HLE.out, HT.out, List.take_of_length_le (Nat.le_refl _), List.drop_of_length_le (Nat.le_refl _), List.append_nil] at this
        exact this
/-- All rows inside are short. -/
def LnTableData (x : S107) : Prop := x.f1.length ≤ 1048576 ∧ ∀ y ∈ x.f1, LnValue y
theorem marksTableDataS (xs : List S107) (hn : xs.length ≤ 1048576) (hx : ∀ y ∈ xs, LnTableData y) : MarksTableDataS xs := marksTableDataS_step xs hn (fun y hy => marksValueS y.f1 (hx y hy).1 (hx y hy).2)
theorem mkTableDataS_getD : ∀ (xs : List S107) (i : Nat) (a : Int), i < xs.length → (mkTableDataS xs a).getD i z107 = mkTableData (xs.getD i z107) (a + cnTableDataS (xs.take i))
  | [], i, _, h => absurd h (by simp)
  | x :: r, 0, a, _ => by simp [mkTableDataS, cnTableDataS]
  | x :: r, i + 1, a, h => by
    have := mkTableDataS_getD r i (a + cnTableData x) (by simpa using h)
    simp only [mkTableDataS, List.getD_cons_succ, List.take_succ_cons, cnTableDataS, this]
    congr 1
    omega
theorem heldTableDataS_step (xs : List S107) (hn : xs.length ≤ 1048576) (hx : ∀ y ∈ xs, (∀ a : Int, 0 ≤ a → a + cnValueS y.f1 ≤ 4611686018427387000 → Ev (fun k => laws_heldValueS.f k (mkValueS y.f1 a) a) (a + cnValueS y.f1))) (a : Int) (h0 : 0 ≤ a) (hb : a + cnTableDataS xs ≤ 4611686018427387000) : Ev (fun k => laws_heldTableDataS.f k (mkTableDataS xs a) a) (a + cnTableDataS xs) := by
  suffices h : ∀ m i, i + m = xs.length → Ev (fun k => laws_heldTableDataS.l0 k (mkTableDataS xs a) (a + cnTableDataS (xs.take i)) (i : Int)) (a + cnTableDataS xs) by
    have := h xs.length 0 (by omega)
    first
    | (refine Ev.up ?_; simp only [laws_heldTableDataS.f]; simpa [cnTableDataS] using this)
    | (simp only [laws_heldTableDataS.f]; simpa [cnTableDataS] using this)
  intro m
  induction m with
  | zero =>
    intro i hi
    refine Ev.up ?_
    simp only [laws_heldTableDataS.l0, mkTableDataS_length]
    refine Ev.neg (by omega) (Ev.const ?_)
    rw [List.take_of_length_le (by omega)]
  | succ m ih =>
    intro i hi
    have hlt : i < xs.length := by omega
    have e1 := cnTableDataS_take xs i hlt
    have e2 := cnTableDataS_take_le xs (i + 1)
    have hg : rd_T107 (mkTableDataS xs a) (i : Int) = mkTableData (xs.getD i z107) (a + cnTableDataS (xs.take i)) := mkTableDataS_getD xs i a hlt
    have hh := hx _ (mem_getD xs z107 i hlt)
    have ih2 := ih (i + 1) (by omega)
    rw [e1] at ih2
    generalize xs.getD i z107 = y at hg hh e1 ih2
    have e3 := cnTableData_eq y
    generalize hbb : a + (cnTableDataS (xs.take i) : Int) = b at hg
    have hbe : b + cnTableData y ≤ a + cnTableDataS xs ∧ 0 ≤ b := ⟨by omega, by omega⟩
    refine Ev.up ?_
    simp only [laws_heldTableDataS.l0, mkTableDataS_length, hg, mkTableData_eq]
    refine Ev.pos (by omega) (Ev.pos (by omega) ?_)
    have v1 : wrap64 (b + 1) = b + 1 := (w64 (by omega) (by omega)).trans (by omega)
    simp only [v1]
    refine Ev.bind (mt_ev b (by omega)) (Ev.pos (by first | exact trivial | rfl) ?_)
    refine Ev.bind (hh (b + 1) (by omega) (by omega)) (Ev.neg (by omega) ?_)
    rw [w1' hlt hn]
    rw [show b + 1 + (cnValueS y.f1 : Nat) = a + ((cnTableDataS (xs.take i) + cnTableData y : Nat) : Int) by omega]
    exact ih2
theorem heldTableDataS_ev (xs : List S107) (hn : xs.length ≤ 1048576) (hx : ∀ y ∈ xs, LnTableData y) (a : Int) (h0 : 0 ≤ a) (hb : a + cnTableDataS xs ≤ 4611686018427387000) : Ev (fun k => laws_heldTableDataS.f k (mkTableDataS xs a) a) (a + cnTableDataS xs) := heldTableDataS_step xs hn (fun y hy => heldValueS_ev y.f1 (hx y hy).1 (hx y hy).2) a h0 hb

end Go.Proofs.Ytcgdaeaaimkhdaa.Py
end
section
namespace Go.Proofs.Ytcgdaeaaimkhdaa.Py
open Go.RowKit Go.Proofs.YtcgdaeaaimkhdaaW.PrintWords Go.Proofs.YtcgdaeaaimkhdaaW.PrintLast Go.Proofs.Ytcgdaeaaimkhdaa.Pl Go.Proofs.Ytcgdaeaaimkhdaa.Ext
set_option linter.unusedVariables false
set_option linter.unusedSimpArgs false
def emptyRow (y : S102) : S107 := ⟨y.f0, []⟩
theorem EmptyDB_same (xs : List S102) (hx : xs.length ≤ 1048576) : Ev (fun k => spec_EmptyDB.f k xs) (xs.map emptyRow) ∧ Ev (fun k => impl_EmptyDB.f k xs) (xs.map emptyRow) := by
  suffices h : ∀ m i, i + m = xs.length → Ev (fun k => spec_EmptyDB.l0 k (i : Int) xs ((xs.take i).map emptyRow)) (xs.map emptyRow) ∧ Ev (fun k => impl_EmptyDB.l0 k xs (xs.length : Int) (i : Int) ((xs.take i).map emptyRow)) (xs.map emptyRow) by
    have := h xs.length 0 (by omega)
    simpa [spec_EmptyDB.f, impl_EmptyDB.f] using this
  intro m
  induction m with
  | zero =>
    intro i hi
    have e : xs.take i = xs := List.take_of_length_le (by omega)
    rw [e]
    refine ⟨Ev.up ?_, Ev.up ?_⟩
    · simp only [spec_EmptyDB.l0]; exact Ev.neg (by omega) (Ev.now _)
    · simp only [impl_EmptyDB.l0]; exact Ev.neg (by omega) (Ev.now _)
  | succ m ih =>
    intro i hi
    have hlt : i < xs.length := by omega
    obtain ⟨h1, h2⟩ := ih (i + 1) (by omega)
    have e : (xs.take i).map emptyRow ++ [emptyRow (xs.getD i z102)] = (xs.take (i + 1)).map emptyRow := by
      rw [List.take_succ_eq_append_getElem hlt, List.getD_eq_getElem?_getD, List.getElem?_eq_getElem hlt, List.map_append]
      rfl
    have hl : ((xs.take i).map emptyRow).length ≤ 1048576 := by rw [List.length_map, List.length_take]; omega
    rw [← e] at h1 h2
    refine ⟨Ev.up ?_, Ev.up ?_⟩
    · simp only [spec_EmptyDB.l0]
      refine Ev.pos (by omega) (Ev.pos (by omega) (Ev.pos (by omega) ?_))
      rw [w1' hlt hx]
      exact h1
    · simp only [impl_EmptyDB.l0]
      refine Ev.pos (by omega) (Ev.pos (by omega) (Ev.pos (by omega) (Ev.pos (by omega) ?_)))
      rw [w1' hlt hx]
      exact h2
theorem emptyRow_sm (y : S102) (h : y.f0.size ≤ 1048576) : SmTableData (emptyRow y) := ⟨h, by simp [emptyRow], by simp [emptyRow]⟩
theorem cnTableDataS_empty : ∀ xs : List S102, cnTableDataS (xs.map emptyRow) = xs.length
  | [] => rfl
  | x :: r => by
    have h := cnTableDataS_empty r
    simp only [List.map_cons, cnTableDataS, List.length_cons]
    rw [cnTableData_eq, h]
    simp only [emptyRow, cnValueS]
    omega
theorem lnTableData_of (x : S107) (h : SmTableData x) : LnTableData x := ⟨h.p1.1, fun y hy => lnValue_of y (h.p1.2 y hy)⟩

end Go.Proofs.Ytcgdaeaaimkhdaa.Py
end
section
namespace Go.Proofs.Ytcgdaeaaimkhdaa.Py
open Go.RowKit Go.Proofs.YtcgdaeaaimkhdaaW.PrintWords Go.Proofs.Ytcgdaeaaimkhdaa.Pl
set_option linter.unusedVariables false
set_option linter.unusedSimpArgs false
def SmDB (x : S50) : Prop := ((x.f0.length ≤ 1048576 ∧ ∀ y ∈ x.f0, SmTableData y))
theorem SmDB.p0 {x : S50} (h : SmDB x) : (x.f0.length ≤ 1048576 ∧ ∀ y ∈ x.f0, SmTableData y) := h
theorem eqDB_ev : ∀ x : S50, SmDB x → Ev (fun k => laws_eqDB.f k (x.f0) (x.f0)) true := by
  intro x hs
  simp only [laws_eqDB.f]
  refine Ev.bind (eqTableDataS_of x.f0 hs.p0.1 (fun y hy => eqTableData_ev y (hs.p0.2 y hy))) (Ev.pos (by simp) ?_)
  exact Ev.now _
end Go.Proofs.Ytcgdaeaaimkhdaa.Py
end
section
namespace Go.Proofs.Ytcgdaeaaimkhdaa.Py
open Go.RowKit Go.Proofs.Ytcgdaeaaimkhdaa.Ext Go.Proofs.YtcgdaeaaimkhdaaW.PrintWords Go.Proofs.YtcgdaeaaimkhdaaW.PrintLast Go.Proofs.YtcgdaeaaimkhdaaW.PrintMore
attribute [local go_sem] max2_int min2_int max_two min_two max_three min_three max_four min_four   -- for this text's walks alone
set_option linter.unusedVariables false
set_option linter.unusedSimpArgs false

/-! ### laws_szTableDeclS: function 72 -/
def laws_szTableDeclS.l0 : Nat → List (S136) → Int → Int → Option (Int)
  | 0, _, _, _ => none
  | k + 1, x0, x1, x5 => if x5 < (x0.length : Int) then (if 0 ≤ x5 then ((laws_szTableDecl.f k ((rd_T136 x0 x5).f0) ((rd_T136 x0 x5).f1.f0) ((rd_T136 x0 x5).f1.f1) ((rd_T136 x0 x5).f1.f2) x1).bind fun t137 => (if t137 < 0 then (some (-1)) else (laws_szTableDeclS.l0 k x0 t137 (wrap64 (x5 + 1))))) else (none)) else (some x1)
def laws_szTableDeclS.f (k : Nat) (l0 : List (S136)) (a1 : Int) : Option (Int) := if (wrap64 (a1 - (l0.length : Int))) < 0 then (some (-1)) else (laws_szTableDeclS.l0 k l0 (wrap64 (a1 - (l0.length : Int))) 0)
set_option maxHeartbeats 8000000 in
set_option maxRecDepth 100000 in
theorem laws_szTableDeclS.calls (k : Nat) (A0 : Option Addr) (c0 : Nat) (l0 : List (S136)) (a1 : Int) (r : Int) (w : World) (hr0 : Kd.C k136 w A0 l0.length l0) (hc0 : l0.length ≤ c0) (h : laws_szTableDeclS.f k l0 a1 = some r) :
    Calls Try.prog 72 #[.slice A0 l0.length c0, .int .i64 a1] w fun e w' => e = .returned (.int .i64 r) ∧ Below w.heap.size w w' := by
  have hu136 := Try.underlying136
  have HR0 := Aside0.mk hr0
  have HC0 := Aside0.mk hc0
  clear hr0 hc0
  have HB := Aside0.mk (Below.refl w.heap.size w)
  have H : (if (wrap64 (a1 - (l0.length : Int))) < 0 then (some (-1)) else (laws_szTableDeclS.l0 k l0 (wrap64 (a1 - (l0.length : Int))) 0)) = some r := h
  clear h
  by_cases c3 : (wrap64 (a1 - (l0.length : Int))) < 0
  · rw [if_pos c3] at H
    have c3b0 : decide ((wrap64 (a1 - (l0.length : Int))) < 0) = true := decide_eq_true c3
    clear c3
    obtain rfl := Option.some.inj H
    go_enter Try.func72, Try.ntmps72
    go_wp2
    go_ret
    exact ⟨by first | rfl | (simp [errW_none, errW_some] <;> rfl) | (simp [*, errW_none, errW_some] <;> rfl), by repeat (first | (with_reducible first | exact HB.out | apply below_alloc | apply pw_below_drewN | apply below_drew1) | exact HB.out)⟩
  · rw [if_neg c3] at H
    have c3b0 : decide ((wrap64 (a1 - (l0.length : Int))) < 0) = false := decide_eq_false c3
    clear c3
    have H' := Aside0.mk H
    clear H
    go_enter Try.func72, Try.ntmps72
    go_wp2
    go_loopg [1, 5] k (fun kq v1 v5 w' => ∃ (x1_1 : Int) (x5_1 : Int), v1 = .int .i64 x1_1 ∧ v5 = .int .i64 x5_1 ∧ Aside0 (laws_szTableDeclS.l0 kq l0 x1_1 x5_1 = some r) ∧ Aside0 (kq ≤ k) ∧ Aside0 (Below w.heap.size w w'))
    case atStart => exact ⟨(wrap64 (a1 - (l0.length : Int))), (0), (by first | rfl | (simp; done) | (simp [i64_w, i32_w]; done) | (simp [*]; done)), (by first | rfl | (simp; done) | (simp [i64_w, i32_w]; done) | (simp [*]; done)), H', ⟨Nat.le_refl _⟩, ⟨by repeat (first | (with_reducible first | exact HB.out | apply below_alloc | apply pw_below_drewN | apply below_drew1) | exact HB.out)⟩⟩
    case round =>
      clear H'
      try clear p2
      try clear c3
      try clear c3b0
      obtain ⟨x1_1, x5_1, rfl, rfl, HA, HK1, HB⟩ := hrel
      cases gk with
      | zero => exact absurd HA.out (by simp [laws_szTableDeclS.l0])
      | succ k1 =>
        have H := HA.out
        clear HA
        simp only [laws_szTableDeclS.l0] at H
        by_cases c4 : x5_1 < (l0.length : Int)
        · rw [if_pos c4] at H
          have c4b0 : decide (x5_1 < (l0.length : Int)) = true := decide_eq_true c4
          clear c4
          by_cases c5 : 0 ≤ x5_1
          · rw [if_pos c5] at H
            have c5b0 : decide (0 ≤ x5_1) = true := decide_eq_true c5
            clear c5
            replace H := Option.bind_eq_some_iff.mp H
            obtain ⟨t137, A60, H⟩ := H
            replace H : (if t137 < 0 then (some (-1)) else (laws_szTableDeclS.l0 k1 l0 t137 (wrap64 (x5_1 + 1)))) = some r := H
            have A6 := Aside0.mk A60
            clear A60
            have HC7 := Aside0.mk H
            clear H
            have p136 : 0 ≤ (x5_1 : Int) := of_decide_eq_true (by first | (with_reducible assumption) | assumption)
            have q136 : x5_1 < (l0.length : Int) := of_decide_eq_true (by first | (with_reducible assumption) | assumption)
            obtain ⟨ad136, A136_2, c136_2, A136_3, c136_3, e136, hx136_0, hx136_1, hx136_2, hx136_3, hl136_2, hi136_2, hl136_3, hi136_3⟩ := at_T136 HR0.out x5_1 p136 q136
            cases e136
            replace hx136_0 := (HB.out.cell (World.block_lt_of_cell? w _ hx136_0)).trans hx136_0
            replace hx136_1 := (HB.out.cell (World.block_lt_of_cell? w _ hx136_1)).trans hx136_1
            replace hx136_2 := (HB.out.cell (World.block_lt_of_cell? w _ hx136_2)).trans hx136_2
            replace hx136_3 := (HB.out.cell (World.block_lt_of_cell? w _ hx136_3)).trans hx136_3
            have HR136_2 := Aside0.mk hi136_2
            have HC136_2 := Aside0.mk hl136_2
            clear hi136_2 hl136_2
            have HR136_3 := Aside0.mk hi136_3
            have HC136_3 := Aside0.mk hl136_3
            clear hi136_3 hl136_3
            replace p136 := eq_true p136
            replace q136 := eq_true q136
            go_upto_if 25 with (first | ((with_reducible refine gate_callee (f := 109) rfl ?_); refine goesL_ (some 23) rfl rfl Try.func109 (by kernel_rfl) rfl #[.agg #[.string ((rd_T136 l0 x5_1).f0), .int .i64 ((rd_T136 l0 x5_1).f1.f0), .slice A136_2 ((rd_T136 l0 x5_1).f1.f1).length c136_2, .slice A136_3 ((rd_T136 l0 x5_1).f1.f2).length c136_3], .int .i64 x1_1] rfl (by (try simp only [List.map_toArray, List.map_cons, List.map_nil]); first | done | rfl | (simp only [List.length_drop, List.length_take]; rfl)) ?_; (with_reducible refine (laws_szTableDecl.calls k1 ((rd_T136 l0 x5_1).f0) ((rd_T136 l0 x5_1).f1.f0) _ _ ((rd_T136 l0 x5_1).f1.f1) _ _ ((rd_T136 l0 x5_1).f1.f2) x1_1 t137 _ ?side1 ?side2 ?side3 ?side4 A6.out).mono ?_); (case side1 => repeat (first | exact (Kd.C_below HR136_2.out HB.out) | (with_reducible refine Kd.C_alloc ?_ _) | (with_reducible refine Kd.C_drewN ?_ _) | (with_reducible refine Kd.C_drew ?_))); (case side2 => exact HC136_2.out); (case side3 => repeat (first | exact (Kd.C_below HR136_3.out HB.out) | (with_reducible refine Kd.C_alloc ?_ _) | (with_reducible refine Kd.C_drewN ?_ _) | (with_reducible refine Kd.C_drew ?_))); (case side4 => exact HC136_3.out); rintro e w8 ⟨rfl, hb⟩; refine ⟨_, rfl, ?_⟩; have n0_ := Aside0.mk (below_step (by repeat (first | (with_reducible first | exact HB.out | apply below_alloc | apply pw_below_drewN | apply below_drew1) | exact HB.out)) hb); clear HB; have HB := n0_; clear n0_; (try clear hb); (try clear hb2); (try clear hk); (try clear hi)))
            have H := HC7.out
            clear HC7
            by_cases c9 : t137 < 0
            · rw [if_pos c9] at H
              have c9b0 : decide (t137 < 0) = true := decide_eq_true c9
              clear c9
              (first | rw [c9b0] | (simp only [i64_w, i32_w]; rw [c9b0]) | skip)
              obtain rfl := Option.some.inj H
              go_wp2
              go_ret
              exact ⟨by first | rfl | (simp [errW_none, errW_some] <;> rfl) | (simp [*, errW_none, errW_some] <;> rfl), by repeat (first | (with_reducible first | exact HB.out | apply below_alloc | apply pw_below_drewN | apply below_drew1) | exact HB.out)⟩
            · rw [if_neg c9] at H
              have c9b0 : decide (t137 < 0) = false := decide_eq_false c9
              clear c9
              (first | rw [c9b0] | (simp only [i64_w, i32_w]; rw [c9b0]) | skip)
              have H' := Aside0.mk H
              clear H
              go_wp2
              go_roundg k1
              case measure => have := HK1.out; omega
              case rel => exact ⟨(t137), (wrap64 (x5_1 + 1)), (by first | rfl | (simp; done) | (simp [i64_w, i32_w]; done) | (simp [*]; done)), (by first | rfl | (simp; done) | (simp [i64_w, i32_w]; done) | (simp [*]; done)), H', ⟨by have := HK1.out; omega⟩, ⟨by repeat (first | (with_reducible first | exact HB.out | apply below_alloc | apply pw_below_drewN | apply below_drew1) | exact HB.out)⟩⟩
          · rw [if_neg c5] at H
            exact absurd H (by simp)
        · rw [if_neg c4] at H
          have c4b0 : decide (x5_1 < (l0.length : Int)) = false := decide_eq_false c4
          clear c4
          obtain rfl := Option.some.inj H
          go_wp2
          go_ret
          exact ⟨by first | rfl | (simp [errW_none, errW_some] <;> rfl) | (simp [*, errW_none, errW_some] <;> rfl), by repeat (first | (with_reducible first | exact HB.out | apply below_alloc | apply pw_below_drewN | apply below_drew1) | exact HB.out)⟩

/-! ### laws_szSchema: function 19 -/
def laws_szSchema.f (k : Nat) (l0_0 : List (S136)) (a1 : Int) : Option (Int) := (laws_szTableDeclS.f k l0_0 a1).bind fun t139 => (if t139 < 0 then (some (-1)) else (some t139))
set_option maxHeartbeats 8000000 in
set_option maxRecDepth 100000 in
theorem laws_szSchema.calls (k : Nat) (A0_0 : Option Addr) (c0_0 : Nat) (l0_0 : List (S136)) (a1 : Int) (r : Int) (w : World) (hr0_0 : Kd.C k136 w A0_0 l0_0.length l0_0) (hc0_0 : l0_0.length ≤ c0_0) (h : laws_szSchema.f k l0_0 a1 = some r) :
    Calls Try.prog 19 #[.agg #[.slice A0_0 l0_0.length c0_0], .int .i64 a1] w fun e w' => e = .returned (.int .i64 r) ∧ Below w.heap.size w w' := by
  have hu38 := Try.underlying38
  have HR0_0 := Aside0.mk hr0_0
  have HC0_0 := Aside0.mk hc0_0
  clear hr0_0 hc0_0
  have HB := Aside0.mk (Below.refl w.heap.size w)
  have H : ((laws_szTableDeclS.f k l0_0 a1).bind fun t139 => (if t139 < 0 then (some (-1)) else (some t139))) = some r := h
  clear h
  replace H := Option.bind_eq_some_iff.mp H
  obtain ⟨t139, A30, H⟩ := H
  replace H : (if t139 < 0 then (some (-1)) else (some t139)) = some r := H
  have A3 := Aside0.mk A30
  clear A30
  have HC4 := Aside0.mk H
  clear H
  go_enter Try.func19, Try.ntmps19
  go_upto_if 10 with (first | ((with_reducible refine gate_dst (N := 2) rfl ?_); refine box_event ?hg (N := 2) ?hd (cs := #[.slice A0_0 l0_0.length c0_0]) (t := 38) ?hr ?_; (case hd => rfl); (case hg => rfl); (case hr => first | (go_simp; done) | (go_simp; rfl)); intro gb138 hg w5 hbox hb; have n0_ := Aside0.mk (below_step (by repeat (first | (with_reducible first | exact HB.out | apply below_alloc | apply pw_below_drewN | apply below_drew1) | exact HB.out)) hb); have n1_ := Aside0.mk (hbox); have n2_ := Aside0.mk ((by rw [hg]; exact (below_size (by repeat (first | (with_reducible first | exact HB.out | apply below_alloc | apply pw_below_drewN | apply below_drew1) | exact HB.out))) : w.heap.size ≤ gb138)); have n3_ := Aside0.mk ((by rw [hg]; exact (below_size (by repeat (first | (with_reducible first | exact HB.out | apply below_alloc | apply pw_below_drewN | apply below_drew1) | exact HB.out))) : w.heap.size ≤ gb138)); clear HB; have HB := n0_; have BK138 := n1_; have GW138 := n2_; have GE138 := n3_; clear n0_ n1_ n2_ n3_; clear hb hbox hg; have hcz6_0 : w5.cell? ⟨gb138, 0, none⟩ = some (.slice A0_0 l0_0.length c0_0) := (blk_cell BK138.out 0).trans rfl; have hfz6_0 := blk_frozen BK138.out 0) | ((with_reducible refine gate_callee (f := 72) rfl ?_); refine goesL_ (some 8) rfl rfl Try.func72 (by kernel_rfl) rfl #[.slice A0_0 l0_0.length c0_0, .int .i64 a1] rfl (by (try simp only [List.map_toArray, List.map_cons, List.map_nil]); first | done | rfl | (simp only [List.length_drop, List.length_take]; rfl)) ?_; (with_reducible refine (laws_szTableDeclS.calls k _ _ l0_0 a1 t139 _ ?side1 ?side2 A3.out).mono ?_); (case side1 => repeat (first | exact (Kd.C_below HR0_0.out HB.out) | (with_reducible refine Kd.C_alloc ?_ _) | (with_reducible refine Kd.C_drewN ?_ _) | (with_reducible refine Kd.C_drew ?_))); (case side2 => exact HC0_0.out); rintro e w7 ⟨rfl, hb⟩; refine ⟨_, rfl, ?_⟩; have n0_ := Aside0.mk (blk_below (g := gb138) (o := .cells #[.slice A0_0 l0_0.length c0_0] 38 (0, 0)) (by (with_reducible repeat (first | refine blk_drewN ?_ _ | refine blk_drew ?_ | refine blk_alloc ?_ _)); exact BK138.out) hb); have n1_ := Aside0.mk (below_step (by repeat (first | (with_reducible first | exact HB.out | apply below_alloc | apply pw_below_drewN | apply below_drew1 | refine below_set ?_ GE138.out) | exact HB.out)) hb); clear BK138; clear HB; have BK138 := n0_; have HB := n1_; clear n0_ n1_; (try clear hb); (try clear hb2); (try clear hk); (try clear hi)))
  have H := HC4.out
  clear HC4
  by_cases c8 : t139 < 0
  · rw [if_pos c8] at H
    have c8b0 : decide (t139 < 0) = true := decide_eq_true c8
    clear c8
    (first | rw [c8b0] | (simp only [i64_w, i32_w]; rw [c8b0]) | skip)
    obtain rfl := Option.some.inj H
    go_wp2
    go_ret
    exact ⟨by first | rfl | (simp [errW_none, errW_some] <;> rfl) | (simp [*, errW_none, errW_some] <;> rfl), by repeat (first | (with_reducible first | exact HB.out | apply below_alloc | apply pw_below_drewN | apply below_drew1 | refine below_set ?_ GE138.out) | exact HB.out)⟩
  · rw [if_neg c8] at H
    have c8b0 : decide (t139 < 0) = false := decide_eq_false c8
    clear c8
    (first | rw [c8b0] | (simp only [i64_w, i32_w]; rw [c8b0]) | skip)
    obtain rfl := Option.some.inj H
    go_wp2
    go_ret
    exact ⟨by first | rfl | (simp [errW_none, errW_some] <;> rfl) | (simp [*, errW_none, errW_some] <;> rfl), by repeat (first | (with_reducible first | exact HB.out | apply below_alloc | apply pw_below_drewN | apply below_drew1 | refine below_set ?_ GE138.out) | exact HB.out)⟩

end Go.Proofs.Ytcgdaeaaimkhdaa.Py
end
