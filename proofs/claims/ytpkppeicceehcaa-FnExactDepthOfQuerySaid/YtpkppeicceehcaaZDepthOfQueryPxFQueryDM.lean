/- The families Head, Comp, Query of mirrored types, nested in each other: weights, copies, and what the laws' own helpers come to. No condition. -/
import Derived.Test.YtpkppeicceehcaaZDepthOfQuerySh
import Derived.Test.YtpkppeicceehcaaZDepthOfQueryPx0
import Derived.Test.YtpkppeicceehcaaZDepthOfQueryPlM
import Derived.Test.YtpkppeicceehcaaZDepthOfQueryPx8M
import Derived.Test.YtpkppeicceehcaaZDepthOfQueryPx3M
import Derived.Test.YtpkppeicceehcaaZDepthOfQueryWLastM
section
namespace Go.Proofs.Ytpkppeicceehcaa.Px
open Go.RowKit Go.Proofs.YtpkppeicceehcaaW.PrintWords Go.Proofs.Ytpkppeicceehcaa.Pl
set_option linter.unusedVariables false
set_option linter.unusedSimpArgs false
mutual
def wtHead : S71 → Nat
  | ⟨x0, x1, x2, x3, ⟨x4⟩⟩ => wtTerm x1 + wts x2 + (x3.length + wtHeadS x3) + (x4.length + wtCompS x4)
def wtHeadS : List S71 → Nat
  | [] => 0
  | x :: r => wtHead x + wtHeadS r
def wtCompS : List S73 → Nat
  | [] => 0
  | ⟨g, t, x⟩ :: r => (g.length + wtGenS g) + wtTerm t + wtHead x + wtCompS r
end
mutual
def cvHead : S71 → S47
  | ⟨x0, x1, x2, x3, ⟨x4⟩⟩ => ⟨x0, cvTerm x1, x2, cvHeadS x3, ⟨cvCompS x4⟩⟩
def cvHeadS : List S71 → List S47
  | [] => []
  | x :: r => cvHead x :: cvHeadS r
def cvCompS : List S73 → List S49
  | [] => []
  | ⟨g, t, x⟩ :: r => ⟨cvGenS g, cvTerm t, cvHead x⟩ :: cvCompS r
end
def wtComp (x : S73) : Nat := (x.f0.length + wtGenS x.f0) + wtTerm x.f1 + wtHead x.f2
def cvComp (x : S73) : S49 := ⟨cvGenS x.f0, cvTerm x.f1, cvHead x.f2⟩
def wtQuery (x : S24) : Nat := x.f0.length + wtCompS x.f0
def cvQuery (x : S24) : S29 := ⟨cvCompS x.f0⟩
theorem wtCompS_sum (xs : List S73) : wtCompS xs = (xs.map wtComp).sum := by
  induction xs with
  | nil => simp [wtCompS]
  | cons x r ih => obtain ⟨g, t, x⟩ := x; simp [wtCompS, wtComp, ih]
theorem cvCompS_map (xs : List S73) : cvCompS xs = xs.map cvComp := by
  induction xs with
  | nil => simp [cvCompS]
  | cons x r ih => obtain ⟨g, t, x⟩ := x; simp [cvCompS, cvComp, ih]
theorem wtHeadS_sum (xs : List S71) : wtHeadS xs = (xs.map wtHead).sum := by
  induction xs with
  | nil => simp [wtHeadS]
  | cons x r ih => simp [wtHeadS, ih]
theorem cvHeadS_map (xs : List S71) : cvHeadS xs = xs.map cvHead := by
  induction xs with
  | nil => simp [cvHeadS]
  | cons x r ih => simp [cvHeadS, ih]
theorem wtHead_eq (x : S71) : wtHead x = wtTerm x.f1 + wts x.f2 + (x.f3.length + wtHeadS x.f3) + wtQuery x.f4 := by obtain ⟨_, _, _, _, ⟨_⟩⟩ := x; simp only [wtHead, wtQuery]
theorem cvHead_eq (x : S71) : cvHead x = ⟨x.f0, cvTerm x.f1, x.f2, cvHeadS x.f3, cvQuery x.f4⟩ := by obtain ⟨_, _, _, _, ⟨_⟩⟩ := x; simp only [cvHead, cvQuery]
theorem wtComp_eq (x : S73) : wtComp x = (x.f0.length + wtGenS x.f0) + wtTerm x.f1 + wtHead x.f2 := rfl
theorem cvComp_eq (x : S73) : cvComp x = ⟨cvGenS x.f0, cvTerm x.f1, cvHead x.f2⟩ := rfl
theorem wtQuery_eq (x : S24) : wtQuery x = (x.f0.length + wtCompS x.f0) := rfl
theorem cvQuery_eq (x : S24) : cvQuery x = ⟨cvCompS x.f0⟩ := rfl
theorem indHeadL {P : S71 → Prop} (h : ∀ x, (∀ y ∈ x.f3, P y) → (∀ y ∈ x.f4.f0, P y.f2) → P x) : ∀ x, P x
  | ⟨x0, x1, x2, x3, ⟨x4⟩⟩ => h _ (fun y hy => indHeadL h y) (fun y hy => indHeadL h y.f2)
termination_by x => SizeOf.sizeOf x
decreasing_by
  · have := List.sizeOf_lt_of_mem hy
    simp at this ⊢
    omega
  · have h1 := List.sizeOf_lt_of_mem hy
    have h2 : SizeOf.sizeOf y.f2 < SizeOf.sizeOf y := by obtain ⟨_, _, _⟩ := y; simp; omega
    simp at h1 ⊢
    omega
theorem indHeadI {P : S47 → Prop} (h : ∀ x, (∀ y ∈ x.f3, P y) → (∀ y ∈ x.f4.f0, P y.f2) → P x) : ∀ x, P x
  | ⟨x0, x1, x2, x3, ⟨x4⟩⟩ => h _ (fun y hy => indHeadI h y) (fun y hy => indHeadI h y.f2)
termination_by x => SizeOf.sizeOf x
decreasing_by
  · have := List.sizeOf_lt_of_mem hy
    simp at this ⊢
    omega
  · have h1 := List.sizeOf_lt_of_mem hy
    have h2 : SizeOf.sizeOf y.f2 < SizeOf.sizeOf y := by obtain ⟨_, _, _⟩ := y; simp; omega
    simp at h1 ⊢
    omega
inductive SmHead : S47 → Prop
  | mk {x : S47} : ((Lit.int .i64 x.f0).wf = true) → SmTerm x.f1 → ((x.f2.length ≤ 1048576 ∧ ∀ y ∈ x.f2, y.size ≤ 1048576)) → x.f3.length ≤ 1048576 → (∀ y ∈ x.f3, SmHead y) → x.f4.f0.length ≤ 1048576 → (∀ z ∈ x.f4.f0, (z.f0.length ≤ 1048576 ∧ ∀ y ∈ z.f0, SmGen y)) → (∀ z ∈ x.f4.f0, SmTerm z.f1) → (∀ z ∈ x.f4.f0, SmHead z.f2) → SmHead x
def SmComp (x : S49) : Prop := ((x.f0.length ≤ 1048576 ∧ ∀ y ∈ x.f0, SmGen y)) ∧ (SmTerm x.f1) ∧ (SmHead x.f2)
theorem SmComp.p0 {x : S49} (h : SmComp x) : (x.f0.length ≤ 1048576 ∧ ∀ y ∈ x.f0, SmGen y) := h.1
theorem SmComp.p1 {x : S49} (h : SmComp x) : SmTerm x.f1 := h.2.1
theorem SmComp.p2 {x : S49} (h : SmComp x) : SmHead x.f2 := h.2.2
def SmQuery (x : S29) : Prop := ((x.f0.length ≤ 1048576 ∧ ∀ y ∈ x.f0, SmComp y))
theorem SmQuery.p0 {x : S29} (h : SmQuery x) : (x.f0.length ≤ 1048576 ∧ ∀ y ∈ x.f0, SmComp y) := h
theorem SmHead.p0 {x : S47} (h : SmHead x) : (Lit.int .i64 x.f0).wf = true := by cases h; assumption
theorem SmHead.p1 {x : S47} (h : SmHead x) : SmTerm x.f1 := by cases h; assumption
theorem SmHead.p2 {x : S47} (h : SmHead x) : (x.f2.length ≤ 1048576 ∧ ∀ y ∈ x.f2, y.size ≤ 1048576) := by cases h; assumption
theorem SmHead.p3 {x : S47} (h : SmHead x) : x.f3.length ≤ 1048576 ∧ ∀ y ∈ x.f3, SmHead y := by cases h; constructor <;> assumption
theorem SmHead.p4 {x : S47} (h : SmHead x) : SmQuery x.f4 := by cases h with | mk _ _ _ _ _ l_ q0 q1 q2 => exact ⟨l_, fun y hy => ⟨q0 y hy, q1 y hy, q2 y hy⟩⟩
theorem etaHead (x : S47) : (⟨x.f0, (⟨x.f1.f0, x.f1.f1, x.f1.f2, (⟨x.f1.f3.f0, x.f1.f3.f1, x.f1.f3.f2⟩ : S41), x.f1.f4, x.f1.f5⟩ : S44), x.f2, x.f3, (⟨x.f4.f0⟩ : S29)⟩ : S47) = x := by obtain ⟨_, ⟨_, _, _, ⟨_, _, _⟩, _, _⟩, _, _, ⟨_⟩⟩ := x; rfl
theorem etaComp (x : S49) : (⟨x.f0, (⟨x.f1.f0, x.f1.f1, x.f1.f2, (⟨x.f1.f3.f0, x.f1.f3.f1, x.f1.f3.f2⟩ : S41), x.f1.f4, x.f1.f5⟩ : S44), (⟨x.f2.f0, (⟨x.f2.f1.f0, x.f2.f1.f1, x.f2.f1.f2, (⟨x.f2.f1.f3.f0, x.f2.f1.f3.f1, x.f2.f1.f3.f2⟩ : S41), x.f2.f1.f4, x.f2.f1.f5⟩ : S44), x.f2.f2, x.f2.f3, (⟨x.f2.f4.f0⟩ : S29)⟩ : S47)⟩ : S49) = x := by obtain ⟨_, ⟨_, _, _, ⟨_, _, _⟩, _, _⟩, ⟨_, ⟨_, _, _, ⟨_, _, _⟩, _, _⟩, _, _, ⟨_⟩⟩⟩ := x; rfl
theorem smComp_from (x : S73) (hw : W73 x) (hw2 : wtComp x ≤ 1048576) (h : W71 x.f2 → wtHead x.f2 ≤ 1048576 → SmHead (cvHead x.f2)) : SmComp (cvComp x) := by
  have hb := hw2
  rw [wtComp_eq] at hb
  rw [cvComp_eq]
  exact ⟨⟨by (try dsimp only); rw [cvGenS_map, List.length_map]; omega, fun z hz => by
      (try dsimp only at hz)
      rw [cvGenS_map] at hz
      obtain ⟨y, hy, rfl⟩ := List.mem_map.1 hz
      exact smGen_of y (hw.1.2 y hy) (by have := sum_le_of_mem wtGen hy; rw [← wtGenS_sum] at this; omega)⟩, smTerm_of _ hw.2.1 (by omega), h hw.2.2 (by omega)⟩
theorem smHead_of : ∀ x : S71, W71 x → wtHead x ≤ 1048576 → SmHead (cvHead x) := by
  refine indHeadL fun x ih ihq hw hw2 => ?_
  have hb := hw2
  rw [wtHead_eq, wtQuery_eq] at hb
  rw [cvHead_eq, cvQuery_eq]
  have hc : ∀ y ∈ x.f4.f0, SmComp (cvComp y) := fun y hy => smComp_from y (hw.p4.2 y hy) (by have := sum_le_of_mem wtComp hy; rw [← wtCompS_sum] at this; omega) (ihq y hy)
  exact SmHead.mk hw.p0 (smTerm_of _ hw.p1 (by omega)) (⟨by (try dsimp only); unfold wts at hb; omega, fun y hy => by (try dsimp only at hy); have := sum_le_of_mem ByteArray.size hy; unfold wts szs at hb; omega⟩) (by (try dsimp only); rw [cvHeadS_map, List.length_map]; omega) (fun z hz => by
      (try dsimp only at hz)
      rw [cvHeadS_map] at hz
      obtain ⟨y, hy, rfl⟩ := List.mem_map.1 hz
      exact ih y hy (hw.p3.2 y hy) (by have := sum_le_of_mem wtHead hy; rw [← wtHeadS_sum] at this; omega)) (by (try dsimp only); rw [cvCompS_map, List.length_map]; omega) (fun z hz => by
      (try dsimp only at hz)
      rw [cvCompS_map] at hz
      obtain ⟨y, hy, rfl⟩ := List.mem_map.1 hz
      exact (hc y hy).1) (fun z hz => by
      (try dsimp only at hz)
      rw [cvCompS_map] at hz
      obtain ⟨y, hy, rfl⟩ := List.mem_map.1 hz
      exact (hc y hy).2.1) (fun z hz => by
      (try dsimp only at hz)
      rw [cvCompS_map] at hz
      obtain ⟨y, hy, rfl⟩ := List.mem_map.1 hz
      exact (hc y hy).2.2)
theorem smComp_of (x : S73) (hw : W73 x) (hw2 : wtComp x ≤ 1048576) : SmComp (cvComp x) := smComp_from x hw hw2 (smHead_of x.f2)
theorem smQuery_of (x : S24) (hw : W24 x) (hw2 : wtQuery x ≤ 1048576) : SmQuery (cvQuery x) := by
  have hb := hw2
  rw [wtQuery_eq] at hb
  rw [cvQuery_eq]
  exact ⟨by (try dsimp only); rw [cvCompS_map, List.length_map]; omega, fun z hz => by
      (try dsimp only at hz)
      rw [cvCompS_map] at hz
      obtain ⟨y, hy, rfl⟩ := List.mem_map.1 hz
      exact smComp_of y (hw.2 y hy) (by have := sum_le_of_mem wtComp hy; rw [← wtCompS_sum] at this; omega)⟩
end Go.Proofs.Ytpkppeicceehcaa.Px
end
section
namespace Go.Proofs.Ytpkppeicceehcaa.Px
open Go.RowKit Go.Proofs.YtpkppeicceehcaaW.PrintWords Go.Proofs.YtpkppeicceehcaaW.PrintLast Go.Proofs.YtpkppeicceehcaaW.PrintMore Go.Proofs.Ytpkppeicceehcaa.Pl Go.Proofs.Ytpkppeicceehcaa.Ext
set_option linter.unusedVariables false
set_option linter.unusedSimpArgs false
attribute [local go_sem] max2_int min2_int max_two min_two max_three min_three max_four min_four
mutual
def acDqH : S47 → Nat → Nat
  | ⟨a, _, _, ps, ⟨cs⟩⟩, n => if a = 3 then max n (acDqC cs 0 + 1) else acDqP ps n
def acDqP : List S47 → Nat → Nat
  | [], n => n
  | x :: r, n => acDqP r (acDqH x n)
def acDqC : List S49 → Nat → Nat
  | [], n => n
  | ⟨_, _, x⟩ :: r, n => acDqC r (acDqH x n)
end
def qvDq (cs : List S49) : Nat := acDqC cs 0 + 1
theorem acDqH_eq (x : S47) (n : Nat) : acDqH x n = if x.f0 = 3 then (let cs := x.f4.f0; max n (qvDq cs)) else acDqP x.f3 n := by
  obtain ⟨_, _, _, _, ⟨_⟩⟩ := x
  simp only [acDqH, qvDq]
theorem acDqC_cons (x : S49) (r : List S49) (n : Nat) : acDqC (x :: r) n = acDqC r (acDqH x.f2 n) := by
  obtain ⟨_, _, _⟩ := x
  simp only [acDqC]
mutual
def ndDqH : S47 → Nat
  | ⟨_, _, _, ps, ⟨cs⟩⟩ => ndDqP ps + (1 + cs.length + ndDqC cs)
def ndDqP : List S47 → Nat
  | [] => 0
  | x :: r => ndDqH x + ndDqP r
def ndDqC : List S49 → Nat
  | [] => 0
  | ⟨_, _, x⟩ :: r => ndDqH x + ndDqC r
end
theorem ndDqH_eq (x : S47) : ndDqH x = ndDqP x.f3 + (1 + x.f4.f0.length + ndDqC x.f4.f0) := by
  obtain ⟨_, _, _, _, ⟨_⟩⟩ := x
  simp only [ndDqH]
theorem ndDqC_cons (x : S49) (r : List S49) : ndDqC (x :: r) = ndDqH x.f2 + ndDqC r := by
  obtain ⟨_, _, _⟩ := x
  simp only [ndDqC]
theorem acDqP_le : ∀ (xs : List S47), (∀ x ∈ xs, ∀ n, acDqH x n ≤ n + ndDqH x) → ∀ n, acDqP xs n ≤ n + ndDqP xs
  | [], _, n => by simp [acDqP]
  | x :: r, h, n => by
    have h1 := h x (List.mem_cons_self ..) n
    have h2 := acDqP_le r (fun y hy => h y (List.mem_cons_of_mem _ hy)) (acDqH x n)
    simp only [acDqP, ndDqP]
    omega
theorem acDqC_le : ∀ (xs : List S49), (∀ x ∈ xs, ∀ n, acDqH x.f2 n ≤ n + ndDqH x.f2) → ∀ n, acDqC xs n ≤ n + ndDqC xs
  | [], _, n => by simp [acDqC]
  | x :: r, h, n => by
    have h1 := h x (List.mem_cons_self ..) n
    have h2 := acDqC_le r (fun y hy => h y (List.mem_cons_of_mem _ hy)) (acDqH x.f2 n)
    rw [acDqC_cons, ndDqC_cons]
    omega
theorem acDqH_le : ∀ (x : S47) (n : Nat), acDqH x n ≤ n + ndDqH x := by
  refine indHeadI fun x ih ihq n => ?_
  rw [acDqH_eq, ndDqH_eq]
  by_cases h : x.f0 = 3
  · rw [if_pos h]
    have := acDqC_le x.f4.f0 ihq (0)
    simp only [qvDq]
    omega
  · rw [if_neg h]
    have := acDqP_le x.f3 ih n
    omega
theorem qvDq_le (cs : List S49) : qvDq cs ≤ 1 + cs.length + ndDqC cs := by
  have := acDqC_le cs (fun x _ => acDqH_le x.f2) (0)
  unfold qvDq
  omega
theorem ndDqP_mem {xs : List S47} {y : S47} (h : y ∈ xs) : ndDqH y ≤ ndDqP xs := by
  induction xs with
  | nil => cases h
  | cons x r ih =>
    rw [ndDqP]
    rcases List.mem_cons.1 h with rfl | h
    · omega
    · have := ih h; omega
theorem ndDqC_mem {xs : List S49} {y : S49} (h : y ∈ xs) : ndDqH y.f2 ≤ ndDqC xs := by
  induction xs with
  | nil => cases h
  | cons x r ih =>
    rw [ndDqC_cons]
    rcases List.mem_cons.1 h with rfl | h
    · omega
    · have := ih h; omega
theorem dropDqH (xs : List S47) (i : Nat) (h : i < xs.length) : xs.drop i = rd_T47 xs (i : Int) :: xs.drop (i + 1) := by
  rw [List.drop_eq_getElem_cons h]
  congr 1
  simp [rd_T47, List.getD_eq_getElem?_getD, h]
theorem dropDqC (xs : List S49) (i : Nat) (h : i < xs.length) : xs.drop i = rd_T49 xs (i : Int) :: xs.drop (i + 1) := by
  rw [List.drop_eq_getElem_cons h]
  congr 1
  simp [rd_T49, List.getD_eq_getElem?_getD, h]
def GoDqQ (cs : List S49) : Prop := ∀ (A : Option Addr) (c : Nat) (w : World), Kd.C k49 w A cs.length cs → cs.length ≤ c →
    Calls Try.prog 12 #[.agg #[.slice A cs.length c]] w fun e w' => e = .returned (.int .i64 ((qvDq cs : Nat) : Int)) ∧ Below w.heap.size w w'
def GoDqH (x : S47) : Prop := ∀ (ad0 : Addr) (A10 : Option Addr) (c10 : Nat) (A11 : Option Addr) (c11 : Nat) (w0 w : World) (bo n : Nat), w0.cell? ad0 = some (.int .i64 x.f0) → w0.cell? ⟨ad0.block, ad0.off + 10, none⟩ = some (.slice A10 x.f3.length c10) → w0.cell? ⟨ad0.block, ad0.off + 11, none⟩ = some (.slice A11 x.f4.f0.length c11) →
    Kd.C k47 w0 A10 x.f3.length x.f3 → Kd.C k49 w0 A11 x.f4.f0.length x.f4.f0 → x.f4.f0.length ≤ c11 → w0.heap.size ≤ bo → n + ndDqH x ≤ 1099511627776 → w.heap[bo]? = some (.cells #[.int .i64 ((n : Nat) : Int)] 3 (0, 0)) → Below w0.heap.size w0 w →
    Calls Try.prog 18 #[.pointer (some ad0), .func (.func 22) #[] #[.pointer (some ⟨bo, 0, none⟩)]] w fun e w' => e = .returned (.tuple #[]) ∧ w'.heap[bo]? = some (.cells #[.int .i64 ((acDqH x n : Nat) : Int)] 3 (0, 0)) ∧ Below w0.heap.size w0 w'
def tabDqFn.T0 : Bool × List (List Nat × List Nat) := (true, [([], []), ([], []), ([1], [1]), ([2], [2]), ([3], [3]), ([0, 4], [0, 4]), ([5, 4, 0, 1, 2, 3, 4, 5], [5])])
def tabDqFn.B0 : List Nat := [0, 0, 2, 6, 14, 31, 63]
theorem tabDqFn.tab0 : rtab .any (opsOf Try.f22 0) = tabDqFn.T0 := by kernel_rfl
theorem tabDqFn.bits0 : waitsOk tabDqFn.T0.2 tabDqFn.B0 = true := by kernel_rfl
set_option maxHeartbeats 4000000 in
set_option maxRecDepth 100000 in
theorem closeDq_go (cs : List S49) (hq : GoDqQ cs) (adq : Addr) (A : Option Addr) (c : Nat) (w0 w : World) (bo n : Nat) (hcell : w0.cell? adq = some (.slice A cs.length c)) (hr : Kd.C k49 w0 A cs.length cs) (hc : cs.length ≤ c) (hbo : w0.heap.size ≤ bo) (hn : n + qvDq cs ≤ 1099511627776) (bo_ : w.heap[bo]? = some (.cells #[.int .i64 ((n : Nat) : Int)] 3 (0, 0))) (hb : Below w0.heap.size w0 w) :
    Calls Try.prog 22 #[.pointer (some adq), .pointer (some ⟨bo, 0, none⟩)] w fun e w' => e = .returned (.tuple #[]) ∧ w'.heap[bo]? = some (.cells #[.int .i64 ((max n (qvDq cs) : Nat) : Int)] 3 (0, 0)) ∧ Below w0.heap.size w0 w' := by
  have HQ := Aside0.mk hcell; have HR := Aside0.mk hr; have HC := Aside0.mk hc; have HBO := Aside0.mk hbo; have HN := Aside0.mk hn; have BO := Aside0.mk bo_; have HB := Aside0.mk hb; have HG := Aside0.mk hq
  clear hcell hr hc hbo hn bo_ hb hq
  have hw_ : Aside0 (wrap64 ((n : Nat) : Int) = ((n : Nat) : Int)) := ⟨by have := HN.out; unfold wrap64; omega⟩
  have hu29 := Try.underlying29
  go_enter Try.func22, Try.ntmps22
  try go_wp2
  replace BO := Aside0.mk (blk_drew BO.out)
  replace HB := Aside0.mk (below_drew1 HB.out)
  refine start_ (n := 7) (S := fun w' => w'.cell? ⟨bo, 0, none⟩ = some (.int .i64 ((n : Nat) : Int)) ∧ w'.cell? adq = some (.slice A cs.length c)) (ds := [6]) #[false, false, false, false, false, false, false] (by kernel_rfl) rfl rfl ⟨(blk_cell BO.out 0).trans rfl, pw_cell_below HB.out HQ.out⟩ (fun hHeld => ?_); refine with_tabW tabDqFn.tab0 tabDqFn.bits0 (fun HT_ HW_ => ?_)
  generalize w.drew = w1 at BO HB hHeld ⊢
  refine take_ (i := 0) (N := some 3) (v := ?_) (a' := ?_) #[true, false, false, false, false, false, false] rfl rfl (take_ofW HT_.out HW_.out (by kernel_rfl)) (fun _ _ _ h => h) (Or.inl ⟨by rfl, ?_⟩) hHeld ?_ ?_
  rotate_left
  · rintro w' ⟨s0, s1⟩
    go_simp
    with_reducible rfl
  rotate_left
  · simp only [Act.put, List.setIfInBounds_toArray, List.set_cons_zero, List.set_cons_succ, i64_w, i32_w]
    rfl
  refine pure_ (i := 1) (N := some 4) (v := ?_) (a' := ?_) #[true, true, false, false, false, false, false] rfl rfl (any_of HT_.out (by kernel_rfl)) (fun _ _ _ h => h) (Or.inl ⟨by rfl, ?_⟩) ?_ ?_
  rotate_left
  · intro w'
    go_simp
    try with_reducible rfl
  rotate_left
  · simp only [Act.put, List.setIfInBounds_toArray, List.set_cons_zero, List.set_cons_succ, i64_w, i32_w]
    rfl
  refine pure_ (i := 2) (N := some 5) (v := ?_) (a' := ?_) #[true, true, true, false, false, false, false] rfl rfl (any_of HT_.out (by kernel_rfl)) (fun _ _ _ h => h) (Or.inl ⟨by rfl, ?_⟩) ?_ ?_
  rotate_left
  · intro w'
    go_simp
    try with_reducible rfl
  rotate_left
  · simp only [Act.put, List.setIfInBounds_toArray, List.set_cons_zero, List.set_cons_succ, i64_w, i32_w]
    rfl
  refine take_ (i := 3) (N := some 6) (v := ?_) (a' := ?_) #[true, true, true, true, false, false, false] rfl rfl (take_ofW HT_.out HW_.out (by kernel_rfl)) (fun _ _ _ h => h) (Or.inl ⟨by rfl, ?_⟩) hHeld ?_ ?_
  rotate_left
  · rintro w' ⟨s0, s1⟩
    go_simp
    with_reducible rfl
  rotate_left
  · simp only [Act.put, List.setIfInBounds_toArray, List.set_cons_zero, List.set_cons_succ, i64_w, i32_w]
    rfl
  refine one_ (i := 4) (N := some 7) #[true, true, true, true, true, false, false] rfl rfl (one_of HT_.out (by kernel_rfl)) (by decide) (fun K hK => ?_)
  refine goes_ Try.func12 (by kernel_rfl) rfl #[.agg #[.slice A cs.length c]] (by rfl) rfl rfl (by (try simp only [List.map_toArray, List.map_cons, List.map_nil]); first | done | rfl | (simp only [List.length_drop, List.length_take]; rfl)) ?_
  refine (HG.out A c w1 (Kd.C_below HR.out HB.out) HC.out).mono ?_
  rintro e w2 ⟨rfl, hd⟩
  refine ⟨_, rfl, ?_⟩
  replace BO := Aside0.mk (blk_below BO.out hd)
  replace HB := Aside0.mk (below_step HB.out hd)
  clear hd
  refine hK.out _ _ ⟨(blk_cell BO.out 0).trans rfl, pw_cell_below HB.out HQ.out⟩ (fun hHeld => ?_)
  clear hK K
  refine norm_ (a' := ?_) ?_ ?_
  rotate_left
  · show Act.put _ (some 7) _ = _
    simp only [Act.put, List.setIfInBounds_toArray, List.set_cons_zero, List.set_cons_succ, i64_w, i32_w]
    rfl
  refine pure_ (i := 5) (N := some 8) (v := ?_) (a' := ?_) #[true, true, true, true, true, true, false] rfl rfl (any_of HT_.out (by kernel_rfl)) (fun _ _ _ h => h) (Or.inl ⟨by rfl, ?_⟩) ?_ ?_
  rotate_left
  · intro w'
    go_simp
    try with_reducible rfl
  rotate_left
  · simp only [Act.put, List.setIfInBounds_toArray, List.set_cons_zero, List.set_cons_succ, i64_w, i32_w]
    rfl
  refine last_ (i := 6) (N := none) #[true, true, true, true, true, true, true] rfl rfl (one_of HT_.out (by kernel_rfl)) (by decide) (fun K hK => ?_)
  have hs42 : w2.cell? ⟨bo, 0, none⟩ = some (.int .i64 ((n : Nat) : Int)) := (blk_cell BO.out 0).trans rfl
  have hfs42 := blk_frozen BO.out 0
  refine skip_ (w1 := ?_) (by rfl) rfl ?_ ?_
  rotate_left
  · go_simp
    rfl
  refine hK.out _ _ ?_
  clear hK K
  refine done_ (done_of HT_.out (by kernel_rfl)) ?_
  clear HT_ HW_
  clear hs42 hfs42
  try go_wp2
  all_goals (first | go_ret | go_end0 | refine bodyPost_ret (results_none rfl _ _ _) rfl ?_)
  all_goals exact ⟨rfl, blk_put (cs := #[.int .i64 ((n : Nat) : Int)]) BO.out 0 _ (by first | (rw [show ((max n (qvDq cs) : Nat) : Int) = ((qvDq cs : Nat) : Int) from by omega]; rfl) | (rw [show ((max n (qvDq cs) : Nat) : Int) = ((n : Nat) : Int) from by omega]; rfl)), below_set HB.out HBO.out⟩
set_option maxHeartbeats 8000000 in
set_option maxRecDepth 100000 in
theorem nestDq_go (x : S47) (hs : SmHead x) (ih : ∀ y ∈ x.f3, GoDqH y) (ihq : GoDqQ x.f4.f0) : GoDqH x := by
  intro ad0 A10 c10 A11 c11 w0 w bo n h0 h10 h11 r10 r11 l11 hbo hn bo_ hb
  have H0 := Aside0.mk h0; have H10 := Aside0.mk h10; have H11 := Aside0.mk h11; have R10 := Aside0.mk r10; have R11 := Aside0.mk r11; have L11 := Aside0.mk l11; have HBO := Aside0.mk hbo; have HN := Aside0.mk hn; have BO := Aside0.mk bo_; have HB := Aside0.mk hb; have HIH := Aside0.mk ih; have HL := Aside0.mk hs.p3.1
  have HCL := Aside0.mk (closeDq_go x.f4.f0 ihq)
  have HE := Aside0.mk (acDqH_eq x n); have HND := Aside0.mk (ndDqH_eq x); have HQL := Aside0.mk (qvDq_le x.f4.f0)
  clear h0 h10 h11 r10 r11 l11 hbo hn bo_ hb hs ih ihq
  have hx0 : w.cell? ad0 = some (.int .i64 x.f0) := pw_cell_below HB.out H0.out
  have hx10 : w.cell? ⟨ad0.block, ad0.off + 10, none⟩ = some (.slice A10 x.f3.length c10) := pw_cell_below HB.out H10.out
  go_enter Try.func18, Try.ntmps18
  by_cases h1 : x.f0 = 3
  · have c1 : (x.f0 == 3) = true := beq_iff_eq.mpr h1
    have HX1 := Aside0.mk h1
    clear h1
    go_wp2_with (first | (((with_reducible refine gate_calleev (t := 10) rfl ?_); refine goesV1_ 10 (some 14) rfl rfl rfl Try.func22 (by kernel_rfl) rfl #[.pointer (some ⟨ad0.block, ad0.off + 11, none⟩), .pointer (some ⟨bo, 0, none⟩)] rfl (by (try simp only [List.map_toArray, List.map_cons, List.map_nil]); first | done | rfl | (simp only [List.length_drop, List.length_take]; rfl)) ?_; refine (HCL.out ⟨ad0.block, ad0.off + 11, none⟩ A11 c11 w0 w bo n H11.out R11.out L11.out HBO.out (by have := HQL.out; have := HND.out; have := HN.out; omega) BO.out HB.out).mono ?_; rintro e w2 ⟨rfl, ho, hb⟩; refine ⟨_, rfl, ?_⟩; have HO := Aside0.mk ho; have HB2 := Aside0.mk hb; clear ho hb)))
    (first | go_ret | go_end0 | refine bodyPost_ret (results_none rfl _ _ _) rfl ?_)
    exact ⟨rfl, by rw [HE.out, if_pos HX1.out]; exact HO.out, HB2.out⟩
  · have c1 : (x.f0 == 3) = false := beq_eq_false_iff_ne.mpr h1
    have HX1 := Aside0.mk h1
    replace HE := Aside0.mk (HE.out.trans (if_neg h1))
    clear h1
    go_wp2
    go_loopg [4, 20] x.f3.length (fun gq v4 v20 w' => ∃ (i m : Nat), v20 = .int .i64 (i : Int) ∧ Aside0 (i + gq = x.f3.length ∧ m + ndDqP (x.f3.drop i) ≤ 1099511627776 ∧ acDqP (x.f3.drop i) m = acDqH x n) ∧ Aside0 (w'.heap[bo]? = some (.cells #[.int .i64 ((m : Nat) : Int)] 3 (0, 0))) ∧ Aside0 (Below w0.heap.size w0 w'))
    case atStart => exact ⟨0, n, by first | rfl | simp, ⟨by omega, by rw [List.drop_zero]; have := HN.out; have := HND.out; omega, by rw [List.drop_zero, HE.out]⟩, BO, HB⟩
    case round =>
      clear BO HB hx0 hx10
      obtain ⟨i, m, rfl, HI, BO, HB⟩ := hrel
      have hx10 : wr.cell? ⟨ad0.block, ad0.off + 10, none⟩ = some (.slice A10 x.f3.length c10) := pw_cell_below HB.out H10.out
      by_cases d1 : i < x.f3.length
      · have d2 : (i : Int) < (x.f3.length : Int) := by omega
        have d4 : decide ((i : Int) < (x.f3.length : Int)) = true := decide_eq_true d2
        have d3 := eq_true d2
        have d5 : (0 ≤ (i : Int)) = True := eq_true (by omega)
        have hmem : rd_T47 x.f3 (i : Int) ∈ x.f3 := mem_getD x.f3 z47 i d1
        have hdr : Aside0 (x.f3.drop i = rd_T47 x.f3 (i : Int) :: x.f3.drop (i + 1)) := ⟨dropDqH x.f3 i d1⟩
        have hnd2 : Aside0 (ndDqP (x.f3.drop i) = ndDqH (rd_T47 x.f3 (i : Int)) + ndDqP (x.f3.drop (i + 1))) := ⟨by rw [hdr.out, ndDqP]⟩
        have HY := Aside0.mk (HIH.out _ hmem)
        have hw1 : Aside0 (wrap64 ((i : Int) + 1) = ((i + 1 : Nat) : Int)) := ⟨Pl.w1 d1 (by have := HL.out; unfold maxLen; omega)⟩
        obtain ⟨ad, B5, e5, B6, e6, B7, e7, B8, e8, B9, e9, B10, e10, B11, e11, eA, y0, y1, y2, y3, y4, y5, y6, y7, y8, y9, y10, y11, m5, o5, m6, o6, m7, o7, m8, o8, m9, o9, m10, o10, m11, o11⟩ := at_T47 R10.out (i : Int) (by omega) d2
        cases eA
        have HY2 := Aside0.mk (fun w bo n => HY.out (ad.add (i * 12)) B10 e10 B11 e11 w0 w bo n y0 y10 y11 o10 o11 m11)
        have D1 := Aside0.mk d1
        clear HY d1 hmem y0 y1 y2 y3 y4 y5 y6 y7 y8 y9 y10 y11 m5 o5 m6 o6 m7 o7 m8 o8 m9 o9 m10 o10 m11 o11
        go_wp2_with (first | (((with_reducible refine gate_callee (f := 18) rfl ?_); refine goesL_ (some 30) rfl rfl Try.func18 (by kernel_rfl) rfl #[.pointer (some (ad.add (i * 12))), .func (.func 22) #[] #[.pointer (some ⟨bo, 0, none⟩)]] rfl (by (try simp only [List.map_toArray, List.map_cons, List.map_nil]); first | done | rfl | (simp only [List.length_drop, List.length_take]; rfl)) ?_; refine (HY2.out wr bo m HBO.out (by have := HI.out.2.1; have := hnd2.out; omega) BO.out HB.out).mono ?_; rintro e w5 ⟨rfl, ho, hb⟩; refine ⟨_, rfl, ?_⟩; clear BO HB; have BO := Aside0.mk ho; have HB := Aside0.mk hb; clear ho hb)))
        go_roundg (gk - 1)
        case measure => have := HI.out; have := D1.out; omega
        case rel => exact ⟨i + 1, _, (by rw [← hw1.out]), ⟨by have := HI.out; have := D1.out; omega, by have h1 := acDqH_le (rd_T47 x.f3 (i : Int)) m; have := HI.out.2.1; have := hnd2.out; omega, by rw [← HI.out.2.2, hdr.out, acDqP]⟩, BO, HB⟩
      · have d4 : decide ((i : Int) < (x.f3.length : Int)) = false := decide_eq_false (by omega)
        have d5 : ¬ ((i : Int) < (x.f3.length : Int)) := by omega
        have hz : Aside0 (m = acDqH x n) := ⟨by have h := HI.out.2.2; rw [List.drop_of_length_le (by omega)] at h; exact h⟩
        clear d1 hx10
        go_wp2
        (first | go_ret | go_end0 | refine bodyPost_ret (results_none rfl _ _ _) rfl ?_)
        exact ⟨rfl, by rw [← hz.out]; exact BO.out, HB.out⟩
set_option maxHeartbeats 8000000 in
set_option maxRecDepth 100000 in
theorem querDq_go (cs : List S49) (hl : cs.length ≤ 1048576) (hn : 1 + cs.length + ndDqC cs ≤ 1099511627776) (ih : ∀ y ∈ cs, GoDqH y.f2) : GoDqQ cs := by
  intro A c w hr hc
  have HR := Aside0.mk hr; have HC := Aside0.mk hc; have HL := Aside0.mk hl; have HN := Aside0.mk hn; have HIH := Aside0.mk ih
  clear hr hc hl hn ih
  have hu29 := Try.underlying29
  have hmf : ∀ (fn : Fn) (first cap : Array Value) (w : World), (Instr.makeFunc fn first cap).run Try.prog w = .ok (.func fn first cap) w := fun _ _ _ _ => rfl
  go_enter Try.func12, Try.ntmps12
  go_wp2_with (first
    | ((with_reducible refine gate_dst (N := 1) rfl ?_); refine box_event ?hg (N := 1) ?hd (cs := #[.slice A cs.length c]) (t := 29) ?hr ?_; (case hd => rfl); (case hg => rfl); (case hr => first | (go_simp; done) | (go_simp; rfl)); intro gb hg w1 hbox hb; have HBX := Aside0.mk hbox; have HB1 := Aside0.mk hb; have hx1 : w1.cell? ⟨gb, 0, none⟩ = some (.slice A cs.length c) := (blk_cell hbox 0).trans rfl; clear hg hbox hb)
    | ((with_reducible refine gate_dst (N := 3) rfl ?_); refine box_event ?hg (N := 3) ?hd (cs := #[.int .i64 0]) (t := 3) ?hr ?_; (case hd => rfl); (case hg => rfl); (case hr => first | (go_simp; done) | (go_simp; rfl)); intro bo hg w2 hbox hb
       have HBO := Aside0.mk (show w1.heap.size ≤ bo by rw [hg]; exact Nat.le_refl _)
       have HXO := Aside0.mk hbox
       have HB2 := Aside0.mk hb
       have hx3 : w2.cell? ⟨bo, 0, none⟩ = some (.int .i64 0) := (blk_cell hbox 0).trans rfl
       have hf3 := blk_frozen hbox 0
       clear hg hbox hb hx1)
    | ((with_reducible refine gate_store (t := 3) (p := 3) rfl ?_)
       refine store_event (t := 3) (p := 3) (v := ?vo_w3) (w1 := (w2.setCell ⟨bo, 0, none⟩ (.int .i64 0))) ?hg ?ho ?hn ?hr ?_; (case ho => rfl); (case hg => rfl); (case hn => rfl); (case hr => first | (go_simp; done) | (go_simp; rfl)); intro w3 hw
       have BO := Aside0.mk (show w3.heap[bo]? = some (.cells #[.int .i64 ((0 : Nat) : Int)] 3 (0, 0)) by rw [hw]; exact blk_put (cs := #[.int .i64 0]) HXO.out 0 _ rfl)
       have HB := Aside0.mk (show Below w1.heap.size w1 w3 by rw [hw]; exact below_set HB2.out HBO.out)
       have hx1 : w3.cell? ⟨gb, 0, none⟩ = some (.slice A cs.length c) := pw_cell_below HB.out ((blk_cell HBX.out 0).trans rfl)
       clear hw hx3 hf3))
  have HR1 := Aside0.mk (Kd.C_below HR.out HB1.out)
  go_loopg [4, 8] cs.length (fun gq v4 v8 w' => ∃ (i m : Nat), v8 = .int .i64 (i : Int) ∧ Aside0 (i + gq = cs.length ∧ m + ndDqC (cs.drop i) ≤ 1099511627776 ∧ acDqC (cs.drop i) m = acDqC cs (0)) ∧ Aside0 (w'.heap[bo]? = some (.cells #[.int .i64 ((m : Nat) : Int)] 3 (0, 0))) ∧ Aside0 (Below w1.heap.size w1 w'))
  case atStart => exact ⟨0, 0, by first | rfl | simp, ⟨by omega, by rw [List.drop_zero]; have := HN.out; omega, by rw [List.drop_zero]⟩, BO, HB⟩
  case round =>
    clear BO HB hx1
    obtain ⟨i, m, rfl, HI, BO, HB⟩ := hrel
    have hx1 : wr.cell? ⟨gb, 0, none⟩ = some (.slice A cs.length c) := pw_cell_below HB.out ((blk_cell HBX.out 0).trans rfl)
    by_cases d1 : i < cs.length
    · have d2 : (i : Int) < (cs.length : Int) := by omega
      have d4 : decide ((i : Int) < (cs.length : Int)) = true := decide_eq_true d2
      have d3 := eq_true d2
      have d5 : (0 ≤ (i : Int)) = True := eq_true (by omega)
      have hmem : rd_T49 cs (i : Int) ∈ cs := mem_getD cs z49 i d1
      have hdr : Aside0 (cs.drop i = rd_T49 cs (i : Int) :: cs.drop (i + 1)) := ⟨dropDqC cs i d1⟩
      have hnd2 : Aside0 (ndDqC (cs.drop i) = ndDqH (rd_T49 cs (i : Int)).f2 + ndDqC (cs.drop (i + 1))) := ⟨by rw [hdr.out, ndDqC_cons]⟩
      have HY := Aside0.mk (HIH.out _ hmem)
      have hw1 : Aside0 (wrap64 ((i : Int) + 1) = ((i + 1 : Nat) : Int)) := ⟨Pl.w1 d1 (by have := HL.out; unfold maxLen; omega)⟩
      obtain ⟨ad, B0, e0, B5, e5, B6, e6, B7, e7, B8, e8, B14, e14, B15, e15, B16, e16, B17, e17, B18, e18, B19, e19, B20, e20, eA, y0, y1, y2, y3, y4, y5, y6, y7, y8, y9, y10, y11, y12, y13, y14, y15, y16, y17, y18, y19, y20, m0, o0, m5, o5, m6, o6, m7, o7, m8, o8, m14, o14, m15, o15, m16, o16, m17, o17, m18, o18, m19, o19, m20, o20⟩ := at_T49 HR1.out (i : Int) (by omega) d2
      cases eA
      have HY2 := Aside0.mk (fun w bo n => HY.out ⟨(ad.add (i * 21)).block, (ad.add (i * 21)).off + 9, none⟩ B19 e19 B20 e20 w1 w bo n y9 y19 y20 o19 o20 m20)
      replace hx1 : wr.cell? ⟨gb, 0, none⟩ = some (.slice (some ad) cs.length c) := hx1
      have D1 := Aside0.mk d1
      clear HY d1 hmem y0 y1 y2 y3 y4 y5 y6 y7 y8 y9 y10 y11 y12 y13 y14 y15 y16 y17 y18 y19 y20 m0 o0 m5 o5 m6 o6 m7 o7 m8 o8 m14 o14 m15 o15 m16 o16 m17 o17 m18 o18 m19 o19 m20 o20
      go_wp2_with (first | (((with_reducible refine gate_callee (f := 18) rfl ?_); refine goesL_ (some 17) rfl rfl Try.func18 (by kernel_rfl) rfl #[.pointer (some ⟨(ad.add (i * 21)).block, (ad.add (i * 21)).off + 9, none⟩), .func (.func 22) #[] #[.pointer (some ⟨bo, 0, none⟩)]] rfl (by (try simp only [List.map_toArray, List.map_cons, List.map_nil]); first | done | rfl | (simp only [List.length_drop, List.length_take]; rfl)) ?_; refine (HY2.out wr bo m HBO.out (by have := HI.out.2.1; have := hnd2.out; omega) BO.out HB.out).mono ?_; rintro e w5 ⟨rfl, ho, hb⟩; refine ⟨_, rfl, ?_⟩; clear BO HB hx1; have BO := Aside0.mk ho; have HB := Aside0.mk hb; clear ho hb)))
      go_roundg (gk - 1)
      case measure => have := HI.out; have := D1.out; omega
      case rel => exact ⟨i + 1, _, (by rw [← hw1.out]), ⟨by have := HI.out; have := D1.out; omega, by have h1 := acDqH_le (rd_T49 cs (i : Int)).f2 m; have := HI.out.2.1; have := hnd2.out; omega, by rw [← HI.out.2.2, hdr.out, acDqC_cons]⟩, BO, HB⟩
    · have d4 : decide ((i : Int) < (cs.length : Int)) = false := decide_eq_false (by omega)
      have d5 : ¬ ((i : Int) < (cs.length : Int)) := by omega
      have hz : Aside0 (acDqC cs (0) = m) := ⟨by have h := HI.out.2.2; rw [List.drop_of_length_le (by omega)] at h; exact h.symm⟩
      have hbx : wr.cell? ⟨bo, 0, none⟩ = some (.int .i64 ((m : Nat) : Int)) := (blk_cell BO.out 0).trans rfl
      have hwz : Aside0 (wrap64 ((m : Int) + 1) = ((m + 1 : Nat) : Int)) := ⟨by have := HI.out.2.1; unfold wrap64; omega⟩
      clear d1 hx1
      go_wp2
      go_ret
      exact ⟨by unfold qvDq; rw [hz.out]; rw [← hwz.out]; first | done | rfl, below_step HB1.out HB.out⟩
theorem allDq_go : ∀ x : S47, SmHead x → ndDqH x ≤ 1099511627776 → GoDqH x := by
  refine indHeadI fun x ih ihq hs hn => ?_
  have he := ndDqH_eq x
  refine nestDq_go x hs (fun y hy => ih y hy (hs.p3.2 y hy) ?_) (querDq_go x.f4.f0 hs.p4.1 (by omega) (fun y hy => ihq y hy (hs.p4.2 y hy).2.2 ?_))
  · have := ndDqP_mem hy; omega
  · have := ndDqC_mem hy; omega
theorem topDq_go (cs : List S49) (hs : SmQuery ⟨cs⟩) (hn : 1 + cs.length + ndDqC cs ≤ 1099511627776) : GoDqQ cs := querDq_go cs hs.1 hn (fun y hy => allDq_go y.f2 (hs.2 y hy).2.2 (by have := ndDqC_mem hy; omega))
end Go.Proofs.Ytpkppeicceehcaa.Px
end
section
namespace Go.Proofs.Ytpkppeicceehcaa.Px
set_option maxHeartbeats 8000000
set_option maxRecDepth 100000
open Go.RowKit Go.Proofs.Ytpkppeicceehcaa.Ext Go.Proofs.YtpkppeicceehcaaW.PrintWords Go.Proofs.YtpkppeicceehcaaW.PrintLast Go.Proofs.YtpkppeicceehcaaW.PrintMore
attribute [local go_sem] max2_int min2_int max_two min_two max_three min_three max_four min_four   -- for this text's walks alone
set_option linter.unusedVariables false
set_option linter.unusedSimpArgs false

/-! ### spec_l13Nested: function 16 -/
mutual
def spec_l13Nested.l0 : Nat → List (S29) → Int → Int → Int → ByteArray → Int → Int → List ByteArray → List (S41) → List ByteArray → List (S44) → List ByteArray → List (S47) → List (S49) → Option ((List (S29)))
 | 0, _, _, _, _, _, _, _, _, _, _, _, _, _, _ => none
 | k + 1, x3, x4, x519000, x519001, x519002, x519003, x519004, x519005, x519006, x519007, x519008, x519009, x519010, x519011 => if x4 < (x519010.length : Int) then (if 0 ≤ x4 then ((spec_l13Nested.f k ((rd_T47 x519010 x4).f0) ((rd_T47 x519010 x4).f1.f0) ((rd_T47 x519010 x4).f1.f1) ((rd_T47 x519010 x4).f1.f2) ((rd_T47 x519010 x4).f1.f3.f0) ((rd_T47 x519010 x4).f1.f3.f1) ((rd_T47 x519010 x4).f1.f3.f2) ((rd_T47 x519010 x4).f1.f4) ((rd_T47 x519010 x4).f1.f5) ((rd_T47 x519010 x4).f2) ((rd_T47 x519010 x4).f3) ((rd_T47 x519010 x4).f4.f0)).bind fun t526 => (if x3.length + t526.length < 5864062014805 then (spec_l13Nested.l0 k (x3 ++ t526) (wrap64 (x4 + 1)) x519000 x519001 x519002 x519003 x519004 x519005 x519006 x519007 x519008 x519009 x519010 x519011) else (none))) else (none)) else (some x3)
def spec_l13Nested.f : Nat → Int → Int → ByteArray → Int → Int → List ByteArray → List (S41) → List ByteArray → List (S44) → List ByteArray → List (S47) → List (S49) → Option ((List (S29)))
 | 0, _, _, _, _, _, _, _, _, _, _, _, _ => none
 | k + 1, a0_0, a0_1, a0_2, a0_3, a0_4, l0_5, l0_6, l0_7, l0_8, l0_9, l0_10, l0_11 => (some (([] : List (S29)) : List (S29))).bind fun y519 => (if a0_0 = 3 then (if y519.length < 5864062014805 then (some (y519 ++ [(⟨l0_11⟩ : S29)])) else (none)) else (spec_l13Nested.l0 k y519 0 a0_0 a0_1 a0_2 a0_3 a0_4 l0_5 l0_6 l0_7 l0_8 l0_9 l0_10 l0_11))
end
theorem spec_l13Nested.calls (k : Nat) : ∀ (a0_0 : Int) (a0_1 : Int) (a0_2 : ByteArray) (a0_3 : Int) (a0_4 : Int) (A0_5 : Option Addr) (c0_5 : Nat) (l0_5 : List ByteArray) (A0_6 : Option Addr) (c0_6 : Nat) (l0_6 : List (S41)) (A0_7 : Option Addr) (c0_7 : Nat) (l0_7 : List ByteArray) (A0_8 : Option Addr) (c0_8 : Nat) (l0_8 : List (S44)) (A0_9 : Option Addr) (c0_9 : Nat) (l0_9 : List ByteArray) (P0_10_ : Nat → Prop) (A0_10 : Option Addr) (c0_10 : Nat) (l0_10 : List (S47)) (P0_11_ : Nat → Prop) (A0_11 : Option Addr) (c0_11 : Nat) (l0_11 : List (S49)) (r : List (S29)) (w : World) (hr0_5 : Kd.C Kd.string w A0_5 l0_5.length l0_5) (hc0_5 : l0_5.length ≤ c0_5) (hr0_6 : Kd.C k41 w A0_6 l0_6.length l0_6) (hc0_6 : l0_6.length ≤ c0_6) (hr0_7 : Kd.C Kd.string w A0_7 l0_7.length l0_7) (hc0_7 : l0_7.length ≤ c0_7) (hr0_8 : Kd.C k44 w A0_8 l0_8.length l0_8) (hc0_8 : l0_8.length ≤ c0_8) (hr0_9 : Kd.C Kd.string w A0_9 l0_9.length l0_9) (hc0_9 : l0_9.length ≤ c0_9) (hs0_10 : Kd.V k47 47 w w.heap.size (fun k_ => P0_10_ k_) (.slice A0_10 l0_10.length c0_10) l0_10) (hs0_11 : Kd.V k49 49 w w.heap.size (fun k_ => P0_11_ k_) (.slice A0_11 l0_11.length c0_11) l0_11) (h : spec_l13Nested.f k a0_0 a0_1 a0_2 a0_3 a0_4 l0_5 l0_6 l0_7 l0_8 l0_9 l0_10 l0_11 = some r),
  Calls Try.prog 16 #[.agg #[.int .i64 a0_0, .int .i64 a0_1, .string a0_2, .int .i64 a0_3, .int .i64 a0_4, .slice A0_5 l0_5.length c0_5, .slice A0_6 l0_6.length c0_6, .slice A0_7 l0_7.length c0_7, .slice A0_8 l0_8.length c0_8, .slice A0_9 l0_9.length c0_9, .slice A0_10 l0_10.length c0_10, .slice A0_11 l0_11.length c0_11]] w fun e w' => ∃ v0_ : Value, e = .returned (v0_) ∧ Kd.N k29 29 w' w.heap.size (fun k_ => ((P0_10_ k_ ∨ P0_11_ k_) ∨ w.heap.size ≤ k_)) v0_ r ∧ Below w.heap.size w w' := by
 induction k using Nat.strongRecOn with
 | _ k ih =>
 intro a0_0 a0_1 a0_2 a0_3 a0_4 A0_5 c0_5 l0_5 A0_6 c0_6 l0_6 A0_7 c0_7 l0_7 A0_8 c0_8 l0_8 A0_9 c0_9 l0_9 P0_10_ A0_10 c0_10 l0_10 P0_11_ A0_11 c0_11 l0_11 r w hr0_5 hc0_5 hr0_6 hc0_6 hr0_7 hc0_7 hr0_8 hc0_8 hr0_9 hc0_9 hs0_10 hs0_11 h
 cases k with
 | zero => exact absurd h (by simp [spec_l13Nested.f])
 | succ k =>
 simp only [spec_l13Nested.f] at h
 have hu47 := Try.underlying47
 have hu29 := Try.underlying29
 have HR0_5 := am hr0_5
 have HC0_5 := am hc0_5
 clear hr0_5 hc0_5
 have HR0_6 := am hr0_6
 have HC0_6 := am hc0_6
 clear hr0_6 hc0_6
 have HR0_7 := am hr0_7
 have HC0_7 := am hc0_7
 clear hr0_7 hc0_7
 have HR0_8 := am hr0_8
 have HC0_8 := am hc0_8
 clear hr0_8 hc0_8
 have HR0_9 := am hr0_9
 have HC0_9 := am hc0_9
 clear hr0_9 hc0_9
 have HO0_10 := am (show Kd.V k47 47 w w.heap.size (fun k_ => ((P0_10_ k_ ∨ P0_11_ k_) ∨ w.heap.size ≤ k_)) (.slice A0_10 l0_10.length c0_10) l0_10 from Kd.V_mono hs0_10 (fun k_ hk => .inl (.inl hk)))
 have HO0_11 := am (show Kd.V k49 49 w w.heap.size (fun k_ => ((P0_10_ k_ ∨ P0_11_ k_) ∨ w.heap.size ≤ k_)) (.slice A0_11 l0_11.length c0_11) l0_11 from Kd.V_mono hs0_11 (fun k_ hk => .inl (.inr hk)))
 have HB := am (Below.refl w.heap.size w)
 have H : ((some (([] : List (S29)) : List (S29))).bind fun y519 => (if a0_0 = 3 then (if y519.length < 5864062014805 then (some (y519 ++ [(⟨l0_11⟩ : S29)])) else (none)) else (spec_l13Nested.l0 k y519 0 a0_0 a0_1 a0_2 a0_3 a0_4 l0_5 l0_6 l0_7 l0_8 l0_9 l0_10 l0_11))) = some r := h
 clear h
 obtain ⟨y519, hy519⟩ : ∃ y_ : List (S29), y_ = (([] : List (S29))) := ⟨_, rfl⟩
 replace H : (if a0_0 = 3 then (if y519.length < 5864062014805 then (some (y519 ++ [(⟨l0_11⟩ : S29)])) else (none)) else (spec_l13Nested.l0 k y519 0 a0_0 a0_1 a0_2 a0_3 a0_4 l0_5 l0_6 l0_7 l0_8 l0_9 l0_10 l0_11)) = some r := by first | (rw [hy519]; with_reducible exact H) | (have H2_ := (Option.bind_some _ _).symm.trans H; rw [hy519]; with_reducible exact H2_) | (have H2_ := (Option.bind_some _ _).symm.trans H; with_reducible exact H2_) | with_reducible exact H | (rw [hy519]; exact H) | exact H
 have Ny519 := am hy519
 clear hy519
 by_cases c2 : a0_0 = 3
 ·rw [if_pos c2] at H
  have c2b0 : (a0_0 == 3) = true := beq_iff_eq.mpr c2
  have c2b1 : (a0_0 != 3) = false := bne_eq_false_iff_eq.mpr c2
  clear c2
  by_cases c3 : y519.length < 5864062014805
  case neg =>
   rw [if_neg c3] at H
   exact absurd H (by simp)
  rw [if_pos c3] at H
  have LMc3 := am c3
  clear c3
  obtain ⟨y522, hy522⟩ : ∃ y_ : List (S29), y_ = (y519 ++ [(⟨l0_11⟩ : S29)]) := ⟨_, rfl⟩
  replace H : (some y522) = some r := by first | (rw [hy522]; with_reducible exact H) | (have H2_ := (Option.bind_some _ _).symm.trans H; rw [hy522]; with_reducible exact H2_) | (have H2_ := (Option.bind_some _ _).symm.trans H; with_reducible exact H2_) | with_reducible exact H | (rw [hy522]; exact H) | exact H
  have Ny522 := am hy522
  clear hy522
  obtain rfl := Option.some.inj H
  go_enter Try.func16, Try.ntmps16
  go_wp2_with (first | ((with_reducible refine gate_dst (N := 1) rfl ?_); refine box_event ?hg (N := 1) ?hd (cs := #[.int .i64 a0_0, .int .i64 a0_1, .string a0_2, .int .i64 a0_3, .int .i64 a0_4, .slice A0_5 l0_5.length c0_5, .slice A0_6 l0_6.length c0_6, .slice A0_7 l0_7.length c0_7, .slice A0_8 l0_8.length c0_8, .slice A0_9 l0_9.length c0_9, .slice A0_10 l0_10.length c0_10, .slice A0_11 l0_11.length c0_11]) (t := 47) ?hr ?_; (case hd => rfl); (case hg => rfl); (case hr => exact hrw); intro gb518 hg w4 hbox hb; have n0_ := am (Kd.V_below (Kd.V_elderB (by (with_reducible repeat (first | apply Kd.V_alloc | apply Kd.V_drewN | apply Kd.V_drew)); exact HO0_10.out) gb518 (Nat.le_of_eq hg.symm)) hb); have n1_ := am (Kd.V_below (Kd.V_elderB (by (with_reducible repeat (first | apply Kd.V_alloc | apply Kd.V_drewN | apply Kd.V_drew)); exact HO0_11.out) gb518 (Nat.le_of_eq hg.symm)) hb); have n2_ := am (below_step blw hb); have n3_ := am (hbox); have n4_ := am ((by rw [hg]; exact (below_size blw) : w.heap.size ≤ gb518)); have n5_ := n4_; clear HO0_10; clear HO0_11; clear HB; revert n0_ n1_ n2_ n3_ n4_ n5_; intro HO0_10 HO0_11 HB BK518 GW518 GE518; clear hb hbox hg) | ((with_reducible refine gate_dst (N := 5) rfl ?_); refine Kd.N_lit k29 _ 29 ?hg (N' := 5) ?hd (xs := ([] : List (S29))) (inner := []) (ok := (fun k_ => ((P0_10_ k_ ∨ P0_11_ k_) ∨ w.heap.size ≤ k_) ∧ k_ ≠ gb518)) (okp := (fun k_ => ((P0_10_ k_ ∨ P0_11_ k_) ∨ w.heap.size ≤ k_) ∧ k_ ≠ gb518)) ?hr ?hp (fun _ hk => hk) ((show ∀ k_, w4.heap.size ≤ k_ → (fun k_ => ((P0_10_ k_ ∨ P0_11_ k_) ∨ w.heap.size ≤ k_) ∧ k_ ≠ gb518) k_ from fun k_ hk => ⟨(.inr (Nat.le_trans (below_size blw) hk)), Kd.freshB (g := gb518) (o := .cells #[.int .i64 a0_0, .int .i64 a0_1, .string a0_2, .int .i64 a0_3, .int .i64 a0_4, .slice A0_5 l0_5.length c0_5, .slice A0_6 l0_6.length c0_6, .slice A0_7 l0_7.length c0_7, .slice A0_8 l0_8.length c0_8, .slice A0_9 l0_9.length c0_9, .slice A0_10 l0_10.length c0_10, .slice A0_11 l0_11.length c0_11] 47 (0, 0)) bkw k_ hk⟩) _ (Nat.le_refl _)) (Below.refl _ _) (Nat.le_refl _) (by simp) ?_; (case hd => rfl); (case hg => rfl); (case hr => exact hrw); (case hp => exact (Reps.none _ _)); intro v520 w5 ho6 hb hg_ hnew_; clear hg_ hnew_; (first | rw [← Ny519.out] at ho6 | (simp only [Int.reduceToNat] at ho6; rw [← Ny519.out] at ho6)); have n0_ := am (Kd.V_elder' (by (with_reducible repeat (first | apply Kd.V_alloc | apply Kd.V_drewN | apply Kd.V_drew)); exact HO0_10.out) (by first | exact Kd.N_base ho6 | exact Kd.S_base ho6 | exact Kd.R_base ho6) hb); have n1_ := am (Kd.V_elder' (by (with_reducible repeat (first | apply Kd.V_alloc | apply Kd.V_drewN | apply Kd.V_drew)); exact HO0_11.out) (by first | exact Kd.N_base ho6 | exact Kd.S_base ho6 | exact Kd.R_base ho6) hb); have n2_ := am (Kd.N_lower ho6 (below_size blw)); have n3_ := am (blk_below (g := gb518) bkw hb); have n4_ := am (below_step blw hb); clear HO0_10; clear HO0_11; clear BK518; clear HB; revert n0_ n1_ n2_ n3_ n4_; intro HO0_10 HO0_11 HO521 BK518 HB; clear hb ho6; obtain ⟨hcz7_0, hcz7_1, hcz7_2, hcz7_3, hcz7_4, hcz7_5, hcz7_6, hcz7_7, hcz7_8, hcz7_9, hcz7_10, hcz7_11⟩ := cls12 BK518.out; obtain ⟨hfz7_0, hfz7_1, hfz7_2, hfz7_3, hfz7_4, hfz7_5, hfz7_6, hfz7_7, hfz7_8, hfz7_9, hfz7_10, hfz7_11⟩ := frz12 BK518.out) | ((with_reducible refine gate_builtin (b := .append) (xs := #[.tmp 9, .tmp 12]) rfl ?_); at_builtin; refine Kd.N_append k29 (w0 := w) w.heap.size rfl (.tmp 9) (.tmp 12) 35 29 (.agg #[(.slice none 0 0)]) 24 rfl Try.underlying35 info29 rfl (by decide) (by omega) v520 y519 (⟨l0_11⟩ : S29) [.slice A0_11 l0_11.length c0_11] (fun k_ => ((P0_10_ k_ ∨ P0_11_ k_) ∨ w.heap.size ≤ k_) ∧ k_ ≠ gb518) (fun k_ => ((fun k_ => ((P0_10_ k_ ∨ P0_11_ k_) ∨ w.heap.size ≤ k_) ∧ k_ ≠ gb518)) k_ ∧ some k_ ≠ (v520 : Value).ownBlock) rfl rfl ?aP (fun _ hk => hk) ?aF ?aO ?aB ?aS ?aL ?_; (case aP => exact (k29_mkF _ _ (⟨l0_11⟩ : S29) (Kd.V_reads' (Kd.V_mono (ok' := (fun k_ => ((fun k_ => ((P0_10_ k_ ∨ P0_11_ k_) ∨ w.heap.size ≤ k_) ∧ k_ ≠ gb518)) k_ ∧ some k_ ≠ (v520 : Value).ownBlock)) (HO0_11.out) (fun k_ hk => ⟨⟨hk.1.1, hk.1.2⟩, hk.2⟩))).2.1 (Kd.V_F (Kd.V_mono (ok' := (fun k_ => ((fun k_ => ((P0_10_ k_ ∨ P0_11_ k_) ∨ w.heap.size ≤ k_) ∧ k_ ≠ gb518)) k_ ∧ some k_ ≠ (v520 : Value).ownBlock)) (HO0_11.out) (fun k_ hk => ⟨⟨hk.1.1, hk.1.2⟩, hk.2⟩))))); (case aB => exact blw); (case aF => exact (fun k_ hk => ⟨(.inr (Nat.le_trans (below_size blw) hk)), Kd.freshB (g := gb518) (o := .cells #[.int .i64 a0_0, .int .i64 a0_1, .string a0_2, .int .i64 a0_3, .int .i64 a0_4, .slice A0_5 l0_5.length c0_5, .slice A0_6 l0_6.length c0_6, .slice A0_7 l0_7.length c0_7, .slice A0_8 l0_8.length c0_8, .slice A0_9 l0_9.length c0_9, .slice A0_10 l0_10.length c0_10, .slice A0_11 l0_11.length c0_11] 47 (0, 0)) bkw k_ hk⟩)); (case aO => exact (by (with_reducible repeat (first | apply Kd.N_alloc | apply Kd.N_drewN | apply Kd.N_drew)); exact HO521.out)); (case aS => exact (below_size blw)); (case aL => have := LMc3.out; omega); intro v523 w8 ho hb hg hat; rw [← Ny522.out] at ho; have n0_ := am (Kd.V_afterv (ok := (fun k_ => ((P0_10_ k_ ∨ P0_11_ k_) ∨ w.heap.size ≤ k_) ∧ k_ ≠ gb518)) (by (with_reducible repeat (first | apply Kd.V_alloc | apply Kd.V_drewN | apply Kd.V_drew)); exact HO0_10.out) hg hat); have n1_ := am (Kd.V_afterv (ok := (fun k_ => ((P0_10_ k_ ∨ P0_11_ k_) ∨ w.heap.size ≤ k_) ∧ k_ ≠ gb518)) (by (with_reducible repeat (first | apply Kd.V_alloc | apply Kd.V_drewN | apply Kd.V_drew)); exact HO0_11.out) hg hat); have n2_ := am (blk_grown (g := gb518) (o := .cells #[.int .i64 a0_0, .int .i64 a0_1, .string a0_2, .int .i64 a0_3, .int .i64 a0_4, .slice A0_5 l0_5.length c0_5, .slice A0_6 l0_6.length c0_6, .slice A0_7 l0_7.length c0_7, .slice A0_8 l0_8.length c0_8, .slice A0_9 l0_9.length c0_9, .slice A0_10 l0_10.length c0_10, .slice A0_11 l0_11.length c0_11] 47 (0, 0)) bkw hg (Kd.N_ne HO521.out BK518.out (by decide))); have n3_ := am (hb); have n4_ := am (ho); clear HO0_10; clear HO0_11; clear BK518; clear HB; clear HO521; revert n0_ n1_ n2_ n3_ n4_; intro HO0_10 HO0_11 BK518 HB HO524; clear ho hb hg hat))
  go_ret
  exact ⟨_, rfw, by (with_reducible repeat (first | apply Kd.N_alloc | apply Kd.N_drewN | apply Kd.N_drew)); exact Kd.N_mono HO524.out (fun _ hk => hk.1), blw⟩
 rw [if_neg c2] at H
 have c2b0 : (a0_0 == 3) = false := beq_eq_false_iff_ne.mpr c2
 have c2b1 : (a0_0 != 3) = true := bne_iff_ne.mpr c2
 have H' := am H
 clear H
 go_enter Try.func16, Try.ntmps16
 go_wp2_with (first | ((with_reducible refine gate_dst (N := 1) rfl ?_); refine box_event ?hg (N := 1) ?hd (cs := #[.int .i64 a0_0, .int .i64 a0_1, .string a0_2, .int .i64 a0_3, .int .i64 a0_4, .slice A0_5 l0_5.length c0_5, .slice A0_6 l0_6.length c0_6, .slice A0_7 l0_7.length c0_7, .slice A0_8 l0_8.length c0_8, .slice A0_9 l0_9.length c0_9, .slice A0_10 l0_10.length c0_10, .slice A0_11 l0_11.length c0_11]) (t := 47) ?hr ?_; (case hd => rfl); (case hg => rfl); (case hr => exact hrw); intro gb518 hg w9 hbox hb; have n0_ := am (Kd.V_below (Kd.V_elderB (by (with_reducible repeat (first | apply Kd.V_alloc | apply Kd.V_drewN | apply Kd.V_drew)); exact HO0_10.out) gb518 (Nat.le_of_eq hg.symm)) hb); have n1_ := am (Kd.V_below (Kd.V_elderB (by (with_reducible repeat (first | apply Kd.V_alloc | apply Kd.V_drewN | apply Kd.V_drew)); exact HO0_11.out) gb518 (Nat.le_of_eq hg.symm)) hb); have n2_ := am (below_step blw hb); have n3_ := am (hbox); have n4_ := am ((by rw [hg]; exact (below_size blw) : w.heap.size ≤ gb518)); have n5_ := n4_; clear HO0_10; clear HO0_11; clear HB; revert n0_ n1_ n2_ n3_ n4_ n5_; intro HO0_10 HO0_11 HB BK518 GW518 GE518; clear hb hbox hg) | ((with_reducible refine gate_dst (N := 5) rfl ?_); refine Kd.N_lit k29 _ 29 ?hg (N' := 5) ?hd (xs := ([] : List (S29))) (inner := []) (ok := (fun k_ => ((P0_10_ k_ ∨ P0_11_ k_) ∨ w.heap.size ≤ k_) ∧ k_ ≠ gb518)) (okp := (fun k_ => ((P0_10_ k_ ∨ P0_11_ k_) ∨ w.heap.size ≤ k_) ∧ k_ ≠ gb518)) ?hr ?hp (fun _ hk => hk) ((show ∀ k_, w9.heap.size ≤ k_ → (fun k_ => ((P0_10_ k_ ∨ P0_11_ k_) ∨ w.heap.size ≤ k_) ∧ k_ ≠ gb518) k_ from fun k_ hk => ⟨(.inr (Nat.le_trans (below_size blw) hk)), Kd.freshB (g := gb518) (o := .cells #[.int .i64 a0_0, .int .i64 a0_1, .string a0_2, .int .i64 a0_3, .int .i64 a0_4, .slice A0_5 l0_5.length c0_5, .slice A0_6 l0_6.length c0_6, .slice A0_7 l0_7.length c0_7, .slice A0_8 l0_8.length c0_8, .slice A0_9 l0_9.length c0_9, .slice A0_10 l0_10.length c0_10, .slice A0_11 l0_11.length c0_11] 47 (0, 0)) bkw k_ hk⟩) _ (Nat.le_refl _)) (Below.refl _ _) (Nat.le_refl _) (by simp) ?_; (case hd => rfl); (case hg => rfl); (case hr => exact hrw); (case hp => exact (Reps.none _ _)); intro v520 w10 ho11 hb hg_ hnew_; clear hg_ hnew_; (first | rw [← Ny519.out] at ho11 | (simp only [Int.reduceToNat] at ho11; rw [← Ny519.out] at ho11)); have n0_ := am (Kd.V_elder' (by (with_reducible repeat (first | apply Kd.V_alloc | apply Kd.V_drewN | apply Kd.V_drew)); exact HO0_10.out) (by first | exact Kd.N_base ho11 | exact Kd.S_base ho11 | exact Kd.R_base ho11) hb); have n1_ := am (Kd.V_elder' (by (with_reducible repeat (first | apply Kd.V_alloc | apply Kd.V_drewN | apply Kd.V_drew)); exact HO0_11.out) (by first | exact Kd.N_base ho11 | exact Kd.S_base ho11 | exact Kd.R_base ho11) hb); have n2_ := am (Kd.N_lower ho11 (below_size blw)); have n3_ := am (blk_below (g := gb518) bkw hb); have n4_ := am (below_step blw hb); clear HO0_10; clear HO0_11; clear BK518; clear HB; revert n0_ n1_ n2_ n3_ n4_; intro HO0_10 HO0_11 HO521 BK518 HB; clear hb ho11; obtain ⟨hcz12_0, hcz12_1, hcz12_2, hcz12_3, hcz12_4, hcz12_5, hcz12_6, hcz12_7, hcz12_8, hcz12_9, hcz12_10, hcz12_11⟩ := cls12 BK518.out; obtain ⟨hfz12_0, hfz12_1, hfz12_2, hfz12_3, hfz12_4, hfz12_5, hfz12_6, hfz12_7, hfz12_8, hfz12_9, hfz12_10, hfz12_11⟩ := frz12 BK518.out))
 go_loopg [3, 4] k (fun kq v3 v4 w' => ∃ (x3_1 : List (S29)) (x4_1 : Int), v4 = .int .i64 x4_1 ∧ Aside0 (spec_l13Nested.l0 kq x3_1 x4_1 a0_0 a0_1 a0_2 a0_3 a0_4 l0_5 l0_6 l0_7 l0_8 l0_9 l0_10 l0_11 = some r) ∧ Aside0 (kq ≤ k) ∧ Aside0 (Kd.N k29 29 w' w.heap.size (fun k_ => ((P0_10_ k_ ∨ P0_11_ k_) ∨ w.heap.size ≤ k_) ∧ k_ ≠ gb518) v3 x3_1) ∧ Aside0 (Kd.V k47 47 w' w.heap.size (fun k_ => ((P0_10_ k_ ∨ P0_11_ k_) ∨ w.heap.size ≤ k_) ∧ some k_ ≠ (v3 : Value).ownBlock ∧ k_ ≠ gb518) (.slice A0_10 l0_10.length c0_10) l0_10) ∧ Aside0 (Kd.V k49 49 w' w.heap.size (fun k_ => ((P0_10_ k_ ∨ P0_11_ k_) ∨ w.heap.size ≤ k_) ∧ some k_ ≠ (v3 : Value).ownBlock ∧ k_ ≠ gb518) (.slice A0_11 l0_11.length c0_11) l0_11) ∧ Aside0 (w'.heap[gb518]? = some (.cells #[.int .i64 a0_0, .int .i64 a0_1, .string a0_2, .int .i64 a0_3, .int .i64 a0_4, (.slice A0_5 l0_5.length c0_5), (.slice A0_6 l0_6.length c0_6), (.slice A0_7 l0_7.length c0_7), (.slice A0_8 l0_8.length c0_8), (.slice A0_9 l0_9.length c0_9), (.slice A0_10 l0_10.length c0_10), (.slice A0_11 l0_11.length c0_11)] 47 (0, 0))) ∧ Aside0 (Below w.heap.size w w'))
 case atStart => exact ⟨(y519), (0), rfs, H', ⟨Nat.le_refl _⟩, ⟨by (with_reducible repeat (first | apply Kd.N_alloc | apply Kd.N_drewN | apply Kd.N_drew)); exact HO521.out⟩, ⟨by (with_reducible repeat (first | apply Kd.V_alloc | apply Kd.V_drewN | apply Kd.V_drew)); exact Kd.V_mono HO0_10.out (fun _ hk => ⟨hk.1.1, ⟨hk.2, hk.1.2⟩⟩)⟩, ⟨by (with_reducible repeat (first | apply Kd.V_alloc | apply Kd.V_drewN | apply Kd.V_drew)); exact Kd.V_mono HO0_11.out (fun _ hk => ⟨hk.1.1, ⟨hk.2, hk.1.2⟩⟩)⟩, ⟨bkw⟩, ⟨blw⟩⟩
 case round =>
  clear H'
  (try clear c1); (try clear c2); (try clear c2b0); (try clear c2b1); (try clear p2); (try clear c3); (try clear hcz12_0 hcz12_1 hcz12_10 hcz12_11 hcz12_2 hcz12_3 hcz12_4 hcz12_5 hcz12_6 hcz12_7 hcz12_8 hcz12_9); (try clear hcz7_0 hcz7_1 hcz7_10 hcz7_11 hcz7_2 hcz7_3 hcz7_4 hcz7_5 hcz7_6 hcz7_7 hcz7_8 hcz7_9); (try clear hfz12_0 hfz12_1 hfz12_10 hfz12_11 hfz12_2 hfz12_3 hfz12_4 hfz12_5 hfz12_6 hfz12_7 hfz12_8 hfz12_9); (try clear hfz7_0 hfz7_1 hfz7_10 hfz7_11 hfz7_2 hfz7_3 hfz7_4 hfz7_5 hfz7_6 hfz7_7 hfz7_8 hfz7_9)
  obtain ⟨x3_1, x4_1, rfl, HA, HK1, HO_3, HO_519010, HO_519011, BK518, HB⟩ := hrel
  cases gk with
  | zero => exact absurd HA.out (by simp [spec_l13Nested.l0])
  | succ k1 =>
   have H := HA.out
   clear HA
   simp only [spec_l13Nested.l0] at H
   by_cases c13 : x4_1 < (l0_10.length : Int)
   case neg =>
    rw [if_neg c13] at H
    have c13b0 : decide (x4_1 < (l0_10.length : Int)) = false := decide_eq_false c13
    clear c13
    obtain rfl := Option.some.inj H
    obtain ⟨hcz21_0, hcz21_1, hcz21_2, hcz21_3, hcz21_4, hcz21_5, hcz21_6, hcz21_7, hcz21_8, hcz21_9, hcz21_10, hcz21_11⟩ := cls12 BK518.out
    obtain ⟨hfz21_0, hfz21_1, hfz21_2, hfz21_3, hfz21_4, hfz21_5, hfz21_6, hfz21_7, hfz21_8, hfz21_9, hfz21_10, hfz21_11⟩ := frz12 BK518.out
    go_wp2
    go_ret
    exact ⟨_, rfw, by (with_reducible repeat (first | apply Kd.N_alloc | apply Kd.N_drewN | apply Kd.N_drew)); exact Kd.N_mono HO_3.out (fun _ hk => hk.1), blw⟩
   rw [if_pos c13] at H
   have c13b0 : decide (x4_1 < (l0_10.length : Int)) = true := decide_eq_true c13
   clear c13
   by_cases c14 : 0 ≤ x4_1
   case neg =>
    rw [if_neg c14] at H
    exact absurd H (by simp)
   rw [if_pos c14] at H
   have c14b0 : decide (0 ≤ x4_1) = true := decide_eq_true c14
   clear c14
   replace H := Option.bind_eq_some_iff.mp H
   obtain ⟨t526, A150, H⟩ := H
   replace H : (if x3_1.length + t526.length < 5864062014805 then (spec_l13Nested.l0 k1 (x3_1 ++ t526) (wrap64 (x4_1 + 1)) a0_0 a0_1 a0_2 a0_3 a0_4 l0_5 l0_6 l0_7 l0_8 l0_9 l0_10 l0_11) else (none)) = some r := H
   have A15 := am A150
   clear A150
   by_cases c16 : x3_1.length + t526.length < 5864062014805
   case neg =>
    rw [if_neg c16] at H
    exact absurd H (by simp)
   rw [if_pos c16] at H
   have LMc16 := am c16
   clear c16
   obtain ⟨y529, hy529⟩ : ∃ y_ : List (S29), y_ = (x3_1 ++ t526) := ⟨_, rfl⟩
   replace H : (spec_l13Nested.l0 k1 y529 (wrap64 (x4_1 + 1)) a0_0 a0_1 a0_2 a0_3 a0_4 l0_5 l0_6 l0_7 l0_8 l0_9 l0_10 l0_11) = some r := by first | (rw [hy529]; with_reducible exact H) | (have H2_ := (Option.bind_some _ _).symm.trans H; rw [hy529]; with_reducible exact H2_) | (have H2_ := (Option.bind_some _ _).symm.trans H; with_reducible exact H2_) | with_reducible exact H | (rw [hy529]; exact H) | exact H
   have Ny529 := am hy529
   clear hy529
   have H' := am H
   clear H
   obtain ⟨hcz17_0, hcz17_1, hcz17_2, hcz17_3, hcz17_4, hcz17_5, hcz17_6, hcz17_7, hcz17_8, hcz17_9, hcz17_10, hcz17_11⟩ := cls12 BK518.out
   obtain ⟨hfz17_0, hfz17_1, hfz17_2, hfz17_3, hfz17_4, hfz17_5, hfz17_6, hfz17_7, hfz17_8, hfz17_9, hfz17_10, hfz17_11⟩ := frz12 BK518.out
   have p525 : 0 ≤ (x4_1 : Int) := of_decide_eq_true asw
   have q525 : x4_1 < (l0_10.length : Int) := of_decide_eq_true asw
   obtain ⟨ad525, A525_5, c525_5, A525_6, c525_6, A525_7, c525_7, A525_8, c525_8, A525_9, c525_9, A525_10, c525_10, A525_11, c525_11, e525, hx525_0, hx525_1, hx525_2, hx525_3, hx525_4, hx525_5, hx525_6, hx525_7, hx525_8, hx525_9, hx525_10, hx525_11, hl525_5, hi525_5, hl525_6, hi525_6, hl525_7, hi525_7, hl525_8, hi525_8, hl525_9, hi525_9, hl525_10, hi525_10, hl525_11, hi525_11⟩ := at_T47 (Kd.V_reads' HO_519010.out).2.2 x4_1 p525 q525
   cases e525
   obtain ⟨ce525, hce525, hMe525, hcc525⟩ := Kd.V_get HO_519010.out z47 x4_1 p525 (by first | exact q525 | exact of_decide_eq_true asw | (have e_ := (Kd.V_reads' HO_519010.out).1; omega))
   obtain ⟨ua525_5, uc525_5, ua525_6, uc525_6, ua525_7, uc525_7, ua525_8, uc525_8, ua525_9, uc525_9, ua525_10, uc525_10, ua525_11, uc525_11, rfl, ul525_5, ge525_5, ul525_6, ge525_6, ul525_7, ge525_7, ul525_8, ge525_8, ul525_9, ge525_9, ul525_10, ge525_10, ul525_11, ge525_11⟩ := k47_openF hMe525
   have hv525_5 := hcc525 5 _ rfl
   rw [add_field _ _ 5 (by omega)] at hv525_5
   replace hv525_5 := Option.some.inj (hv525_5.symm.trans hx525_5)
   injection hv525_5 with hva_ hvn_ hvc_
   rw [hva_] at ge525_5
   rw [hvc_] at ul525_5
   have HL525_5 := am (show Kd.V Kd.string 9 _ w.heap.size _ _ ((rd_T47 l0_10 x4_1).f1.f3.f1) from Kd.V_mk ul525_5 ge525_5)
   clear hva_ hvn_ hvc_ ge525_5 ul525_5
   have hv525_6 := hcc525 6 _ rfl
   rw [add_field _ _ 6 (by omega)] at hv525_6
   replace hv525_6 := Option.some.inj (hv525_6.symm.trans hx525_6)
   injection hv525_6 with hva_ hvn_ hvc_
   rw [hva_] at ge525_6
   rw [hvc_] at ul525_6
   have HL525_6 := am (show Kd.V k41 41 _ w.heap.size _ _ ((rd_T47 l0_10 x4_1).f1.f3.f2) from Kd.V_mk ul525_6 ge525_6)
   clear hva_ hvn_ hvc_ ge525_6 ul525_6
   have hv525_7 := hcc525 7 _ rfl
   rw [add_field _ _ 7 (by omega)] at hv525_7
   replace hv525_7 := Option.some.inj (hv525_7.symm.trans hx525_7)
   injection hv525_7 with hva_ hvn_ hvc_
   rw [hva_] at ge525_7
   rw [hvc_] at ul525_7
   have HL525_7 := am (show Kd.V Kd.string 9 _ w.heap.size _ _ ((rd_T47 l0_10 x4_1).f1.f4) from Kd.V_mk ul525_7 ge525_7)
   clear hva_ hvn_ hvc_ ge525_7 ul525_7
   have hv525_8 := hcc525 8 _ rfl
   rw [add_field _ _ 8 (by omega)] at hv525_8
   replace hv525_8 := Option.some.inj (hv525_8.symm.trans hx525_8)
   injection hv525_8 with hva_ hvn_ hvc_
   rw [hva_] at ge525_8
   rw [hvc_] at ul525_8
   have HL525_8 := am (show Kd.V k44 44 _ w.heap.size _ _ ((rd_T47 l0_10 x4_1).f1.f5) from Kd.V_mk ul525_8 ge525_8)
   clear hva_ hvn_ hvc_ ge525_8 ul525_8
   have hv525_9 := hcc525 9 _ rfl
   rw [add_field _ _ 9 (by omega)] at hv525_9
   replace hv525_9 := Option.some.inj (hv525_9.symm.trans hx525_9)
   injection hv525_9 with hva_ hvn_ hvc_
   rw [hva_] at ge525_9
   rw [hvc_] at ul525_9
   have HL525_9 := am (show Kd.V Kd.string 9 _ w.heap.size _ _ ((rd_T47 l0_10 x4_1).f2) from Kd.V_mk ul525_9 ge525_9)
   clear hva_ hvn_ hvc_ ge525_9 ul525_9
   have hv525_10 := hcc525 10 _ rfl
   rw [add_field _ _ 10 (by omega)] at hv525_10
   replace hv525_10 := Option.some.inj (hv525_10.symm.trans hx525_10)
   injection hv525_10 with hva_ hvn_ hvc_
   rw [hva_] at ge525_10
   rw [hvc_] at ul525_10
   have HL525_10 := am (show Kd.V k47 47 _ w.heap.size _ _ ((rd_T47 l0_10 x4_1).f3) from Kd.V_mk ul525_10 ge525_10)
   clear hva_ hvn_ hvc_ ge525_10 ul525_10
   have hv525_11 := hcc525 11 _ rfl
   rw [add_field _ _ 11 (by omega)] at hv525_11
   replace hv525_11 := Option.some.inj (hv525_11.symm.trans hx525_11)
   injection hv525_11 with hva_ hvn_ hvc_
   rw [hva_] at ge525_11
   rw [hvc_] at ul525_11
   have HL525_11 := am (show Kd.V k49 49 _ w.heap.size _ _ ((rd_T47 l0_10 x4_1).f4.f0) from Kd.V_mk ul525_11 ge525_11)
   clear hva_ hvn_ hvc_ ge525_11 ul525_11
   clear hcc525 hce525
   have HR525_5 := am hi525_5
   have HC525_5 := am hl525_5
   clear hi525_5 hl525_5
   have HR525_6 := am hi525_6
   have HC525_6 := am hl525_6
   clear hi525_6 hl525_6
   have HR525_7 := am hi525_7
   have HC525_7 := am hl525_7
   clear hi525_7 hl525_7
   have HR525_8 := am hi525_8
   have HC525_8 := am hl525_8
   clear hi525_8 hl525_8
   have HR525_9 := am hi525_9
   have HC525_9 := am hl525_9
   clear hi525_9 hl525_9
   have HR525_10 := am hi525_10
   have HC525_10 := am hl525_10
   clear hi525_10 hl525_10
   have HR525_11 := am hi525_11
   have HC525_11 := am hl525_11
   clear hi525_11 hl525_11
   replace p525 := eq_true p525
   replace q525 := eq_true q525
   go_wp2_with (first | ((with_reducible refine gate_callee (f := 16) rfl ?_); refine goesL_ (some 27) rfl rfl Try.func16 kr rfl #[.agg #[.int .i64 ((rd_T47 l0_10 x4_1).f0), .int .i64 ((rd_T47 l0_10 x4_1).f1.f0), .string ((rd_T47 l0_10 x4_1).f1.f1), .int .i64 ((rd_T47 l0_10 x4_1).f1.f2), .int .i64 ((rd_T47 l0_10 x4_1).f1.f3.f0), .slice A525_5 ((rd_T47 l0_10 x4_1).f1.f3.f1).length c525_5, .slice A525_6 ((rd_T47 l0_10 x4_1).f1.f3.f2).length c525_6, .slice A525_7 ((rd_T47 l0_10 x4_1).f1.f4).length c525_7, .slice A525_8 ((rd_T47 l0_10 x4_1).f1.f5).length c525_8, .slice A525_9 ((rd_T47 l0_10 x4_1).f2).length c525_9, .slice A525_10 ((rd_T47 l0_10 x4_1).f3).length c525_10, .slice A525_11 ((rd_T47 l0_10 x4_1).f4.f0).length c525_11]] rfl mpw ?_; (with_reducible refine (ih k1 (by have := HK1.out; omega) ((rd_T47 l0_10 x4_1).f0) ((rd_T47 l0_10 x4_1).f1.f0) ((rd_T47 l0_10 x4_1).f1.f1) ((rd_T47 l0_10 x4_1).f1.f2) ((rd_T47 l0_10 x4_1).f1.f3.f0) _ _ ((rd_T47 l0_10 x4_1).f1.f3.f1) _ _ ((rd_T47 l0_10 x4_1).f1.f3.f2) _ _ ((rd_T47 l0_10 x4_1).f1.f4) _ _ ((rd_T47 l0_10 x4_1).f1.f5) _ _ ((rd_T47 l0_10 x4_1).f2) (fun k_ => (((P0_10_ k_ ∨ P0_11_ k_) ∨ w.heap.size ≤ k_) ∧ (some k_ ≠ (u3 : Value).ownBlock ∧ k_ ≠ gb518))) _ _ ((rd_T47 l0_10 x4_1).f3) (fun k_ => (((P0_10_ k_ ∨ P0_11_ k_) ∨ w.heap.size ≤ k_) ∧ (some k_ ≠ (u3 : Value).ownBlock ∧ k_ ≠ gb518))) _ _ ((rd_T47 l0_10 x4_1).f4.f0) t526 _ ?side1 ?side2 ?side3 ?side4 ?side5 ?side6 ?side7 ?side8 ?side9 ?side10 ?side11 ?side12 A15.out).mono ?_); (case side1 => repeat (first | exact (by repeat (first | (with_reducible exact HR525_5.out) | (with_reducible refine Kd.C_alloc ?_ _) | (with_reducible refine Kd.C_drewN ?_ _) | (with_reducible refine Kd.C_drew ?_) | exact HR525_5.out)) | (with_reducible refine Kd.C_alloc ?_ _) | (with_reducible refine Kd.C_drewN ?_ _) | (with_reducible refine Kd.C_drew ?_))); (case side2 => exact HC525_5.out); (case side3 => repeat (first | exact (by repeat (first | (with_reducible exact HR525_6.out) | (with_reducible refine Kd.C_alloc ?_ _) | (with_reducible refine Kd.C_drewN ?_ _) | (with_reducible refine Kd.C_drew ?_) | exact HR525_6.out)) | (with_reducible refine Kd.C_alloc ?_ _) | (with_reducible refine Kd.C_drewN ?_ _) | (with_reducible refine Kd.C_drew ?_))); (case side4 => exact HC525_6.out); (case side5 => repeat (first | exact (by repeat (first | (with_reducible exact HR525_7.out) | (with_reducible refine Kd.C_alloc ?_ _) | (with_reducible refine Kd.C_drewN ?_ _) | (with_reducible refine Kd.C_drew ?_) | exact HR525_7.out)) | (with_reducible refine Kd.C_alloc ?_ _) | (with_reducible refine Kd.C_drewN ?_ _) | (with_reducible refine Kd.C_drew ?_))); (case side6 => exact HC525_7.out); (case side7 => repeat (first | exact (by repeat (first | (with_reducible exact HR525_8.out) | (with_reducible refine Kd.C_alloc ?_ _) | (with_reducible refine Kd.C_drewN ?_ _) | (with_reducible refine Kd.C_drew ?_) | exact HR525_8.out)) | (with_reducible refine Kd.C_alloc ?_ _) | (with_reducible refine Kd.C_drewN ?_ _) | (with_reducible refine Kd.C_drew ?_))); (case side8 => exact HC525_8.out); (case side9 => repeat (first | exact (by repeat (first | (with_reducible exact HR525_9.out) | (with_reducible refine Kd.C_alloc ?_ _) | (with_reducible refine Kd.C_drewN ?_ _) | (with_reducible refine Kd.C_drew ?_) | exact HR525_9.out)) | (with_reducible refine Kd.C_alloc ?_ _) | (with_reducible refine Kd.C_drewN ?_ _) | (with_reducible refine Kd.C_drew ?_))); (case side10 => exact HC525_9.out); (case side11 => exact HL525_10.out); (case side12 => exact HL525_11.out); rintro e w18 ⟨v527, rfl, ho0, hb⟩; refine ⟨_, rfl, ?_⟩; have n0_ := am (Kd.N_elder' (by (with_reducible repeat (first | apply Kd.N_alloc | apply Kd.N_drewN | apply Kd.N_drew)); exact HO_3.out) (by first | exact Kd.N_base ho0 | exact Kd.S_base ho0 | exact Kd.R_base ho0) hb); have n1_ := am (Kd.V_elder' (by (with_reducible repeat (first | apply Kd.V_alloc | apply Kd.V_drewN | apply Kd.V_drew)); exact HO_519010.out) (by first | exact Kd.N_base ho0 | exact Kd.S_base ho0 | exact Kd.R_base ho0) hb); have n2_ := am (Kd.V_elder' (by (with_reducible repeat (first | apply Kd.V_alloc | apply Kd.V_drewN | apply Kd.V_drew)); exact HO_519011.out) (by first | exact Kd.N_base ho0 | exact Kd.S_base ho0 | exact Kd.R_base ho0) hb); have n3_ := am (Kd.V_elder' (by (with_reducible repeat (first | apply Kd.V_alloc | apply Kd.V_drewN | apply Kd.V_drew)); exact HL525_5.out) (by first | exact Kd.N_base ho0 | exact Kd.S_base ho0 | exact Kd.R_base ho0) hb); have n4_ := am (Kd.V_elder' (by (with_reducible repeat (first | apply Kd.V_alloc | apply Kd.V_drewN | apply Kd.V_drew)); exact HL525_6.out) (by first | exact Kd.N_base ho0 | exact Kd.S_base ho0 | exact Kd.R_base ho0) hb); have n5_ := am (Kd.V_elder' (by (with_reducible repeat (first | apply Kd.V_alloc | apply Kd.V_drewN | apply Kd.V_drew)); exact HL525_7.out) (by first | exact Kd.N_base ho0 | exact Kd.S_base ho0 | exact Kd.R_base ho0) hb); have n6_ := am (Kd.V_elder' (by (with_reducible repeat (first | apply Kd.V_alloc | apply Kd.V_drewN | apply Kd.V_drew)); exact HL525_8.out) (by first | exact Kd.N_base ho0 | exact Kd.S_base ho0 | exact Kd.R_base ho0) hb); have n7_ := am (Kd.V_elder' (by (with_reducible repeat (first | apply Kd.V_alloc | apply Kd.V_drewN | apply Kd.V_drew)); exact HL525_9.out) (by first | exact Kd.N_base ho0 | exact Kd.S_base ho0 | exact Kd.R_base ho0) hb); have n8_ := am (Kd.V_elder' (by (with_reducible repeat (first | apply Kd.V_alloc | apply Kd.V_drewN | apply Kd.V_drew)); exact HL525_10.out) (by first | exact Kd.N_base ho0 | exact Kd.S_base ho0 | exact Kd.R_base ho0) hb); have n9_ := am (Kd.V_elder' (by (with_reducible repeat (first | apply Kd.V_alloc | apply Kd.V_drewN | apply Kd.V_drew)); exact HL525_11.out) (by first | exact Kd.N_base ho0 | exact Kd.S_base ho0 | exact Kd.R_base ho0) hb); have n10_ := am (Kd.N_lower (Kd.N_mono (ok' := fun k_ => ((P0_10_ k_ ∨ P0_11_ k_) ∨ w.heap.size ≤ k_) ∧ some k_ ≠ (u3 : Value).ownBlock ∧ k_ ≠ gb518) ho0 (fun k_ hk_ => ⟨Or.elim hk_ (fun hs_ => Or.elim hs_ (fun hs_ => hs_.1) (fun hs_ => hs_.1)) (fun hn_ => (.inr (Nat.le_trans (below_size blw) hn_))), Or.elim hk_ (fun hs_ => Or.elim hs_ (fun hs_ => hs_.2.1) (fun hs_ => hs_.2.1)) (fun hn_ => (Kd.fresh' (Kd.N_lt (by (with_reducible repeat (first | apply Kd.N_alloc | apply Kd.N_drewN | apply Kd.N_drew)); exact HO_3.out)) k_ hn_)), Or.elim hk_ (fun hs_ => Or.elim hs_ (fun hs_ => hs_.2.2) (fun hs_ => hs_.2.2)) (fun hn_ => (Kd.freshB (g := gb518) (o := .cells #[.int .i64 a0_0, .int .i64 a0_1, .string a0_2, .int .i64 a0_3, .int .i64 a0_4, .slice A0_5 l0_5.length c0_5, .slice A0_6 l0_6.length c0_6, .slice A0_7 l0_7.length c0_7, .slice A0_8 l0_8.length c0_8, .slice A0_9 l0_9.length c0_9, .slice (some ad525) l0_10.length c0_10, .slice A0_11 l0_11.length c0_11] 47 (0, 0)) bkw k_ hn_))⟩)) (below_size blw)); have n11_ := am (blk_below (g := gb518) bkw hb); have n12_ := am (Kd.C_below (by repeat (first | (with_reducible exact HR525_5.out) | (with_reducible refine Kd.C_alloc ?_ _) | (with_reducible refine Kd.C_drewN ?_ _) | (with_reducible refine Kd.C_drew ?_) | exact HR525_5.out)) hb); have n13_ := am (Kd.C_below (by repeat (first | (with_reducible exact HR525_6.out) | (with_reducible refine Kd.C_alloc ?_ _) | (with_reducible refine Kd.C_drewN ?_ _) | (with_reducible refine Kd.C_drew ?_) | exact HR525_6.out)) hb); have n14_ := am (Kd.C_below (by repeat (first | (with_reducible exact HR525_7.out) | (with_reducible refine Kd.C_alloc ?_ _) | (with_reducible refine Kd.C_drewN ?_ _) | (with_reducible refine Kd.C_drew ?_) | exact HR525_7.out)) hb); have n15_ := am (Kd.C_below (by repeat (first | (with_reducible exact HR525_8.out) | (with_reducible refine Kd.C_alloc ?_ _) | (with_reducible refine Kd.C_drewN ?_ _) | (with_reducible refine Kd.C_drew ?_) | exact HR525_8.out)) hb); have n16_ := am (Kd.C_below (by repeat (first | (with_reducible exact HR525_9.out) | (with_reducible refine Kd.C_alloc ?_ _) | (with_reducible refine Kd.C_drewN ?_ _) | (with_reducible refine Kd.C_drew ?_) | exact HR525_9.out)) hb); have n17_ := am (Kd.C_below (by repeat (first | (with_reducible exact HR525_10.out) | (with_reducible refine Kd.C_alloc ?_ _) | (with_reducible refine Kd.C_drewN ?_ _) | (with_reducible refine Kd.C_drew ?_) | exact HR525_10.out)) hb); have n18_ := am (Kd.C_below (by repeat (first | (with_reducible exact HR525_11.out) | (with_reducible refine Kd.C_alloc ?_ _) | (with_reducible refine Kd.C_drewN ?_ _) | (with_reducible refine Kd.C_drew ?_) | exact HR525_11.out)) hb); have n19_ := am (below_step blw hb); clear HO_3; clear HO_519010; clear HO_519011; clear HL525_5; clear HL525_6; clear HL525_7; clear HL525_8; clear HL525_9; clear HL525_10; clear HL525_11; clear BK518; clear HR525_5; clear HR525_6; clear HR525_7; clear HR525_8; clear HR525_9; clear HR525_10; clear HR525_11; clear HB; revert n0_ n1_ n2_ n3_ n4_ n5_ n6_ n7_ n8_ n9_ n10_ n11_ n12_ n13_ n14_ n15_ n16_ n17_ n18_ n19_; intro HO_3 HO_519010 HO_519011 HL525_5 HL525_6 HL525_7 HL525_8 HL525_9 HL525_10 HL525_11 HO528 BK518 HR525_5 HR525_6 HR525_7 HR525_8 HR525_9 HR525_10 HR525_11 HB; (try clear hb); (try clear hb2); (try clear hk); (try clear hi); (try clear ho0); obtain ⟨Ao20, co20, eo20⟩ := Kd.N_slice HO528.out; subst eo20) | ((with_reducible refine gate_builtin (b := .append) (xs := #[.tmp 21, .tmp 27]) rfl ?_); at_builtin; refine Kd.N_append_rows k29 (w0 := w) w.heap.size rfl (.tmp 21) (.tmp 27) 35 29 (.agg #[(.slice none 0 0)]) 24 rfl Try.underlying35 info29 rfl (by decide) (by omega) u3 x3_1 t526 _ _ _ (fun k_ => ((P0_10_ k_ ∨ P0_11_ k_) ∨ w.heap.size ≤ k_) ∧ k_ ≠ gb518) (fun k_ => ((fun k_ => ((P0_10_ k_ ∨ P0_11_ k_) ∨ w.heap.size ≤ k_) ∧ k_ ≠ gb518)) k_ ∧ some k_ ≠ (u3 : Value).ownBlock) rfl rfl ?aO ?aR (fun _ hk => hk) ?aF ?aB ?aS ?aL ?_; (case aR => exact (by skip; exact Kd.N_F (Kd.N_mono (ok' := (fun k_ => ((fun k_ => ((P0_10_ k_ ∨ P0_11_ k_) ∨ w.heap.size ≤ k_) ∧ k_ ≠ gb518)) k_ ∧ some k_ ≠ (u3 : Value).ownBlock)) (HO528.out) (fun k_ hk => ⟨⟨hk.1, hk.2.2⟩, hk.2.1⟩)))); (case aB => exact blw); (case aF => exact (fun k_ hk => ⟨(.inr (Nat.le_trans (below_size blw) hk)), Kd.freshB (g := gb518) (o := .cells #[.int .i64 a0_0, .int .i64 a0_1, .string a0_2, .int .i64 a0_3, .int .i64 a0_4, .slice A0_5 l0_5.length c0_5, .slice A0_6 l0_6.length c0_6, .slice A0_7 l0_7.length c0_7, .slice A0_8 l0_8.length c0_8, .slice A0_9 l0_9.length c0_9, .slice (some ad525) l0_10.length c0_10, .slice A0_11 l0_11.length c0_11] 47 (0, 0)) bkw k_ hk⟩)); (case aO => exact (by (with_reducible repeat (first | apply Kd.N_alloc | apply Kd.N_drewN | apply Kd.N_drew)); exact Kd.N_mono HO_3.out (fun _ hk => ⟨hk.1.1, hk.1.2⟩))); (case aS => exact (below_size blw)); (case aL => have := LMc16.out; omega); intro v530 w19 ho hb hg hat; rw [← Ny529.out] at ho; have n0_ := am (Kd.V_afterv (ok := (fun k_ => ((P0_10_ k_ ∨ P0_11_ k_) ∨ w.heap.size ≤ k_) ∧ some k_ ≠ (.slice Ao20 t526.length co20 : Value).ownBlock ∧ k_ ≠ gb518)) (by (with_reducible repeat (first | apply Kd.V_alloc | apply Kd.V_drewN | apply Kd.V_drew)); exact Kd.V_mono HO_519010.out (fun _ hk => ⟨⟨hk.1.1, ⟨hk.2, hk.1.2.2⟩⟩, hk.1.2.1⟩)) hg hat); have n1_ := am (Kd.V_afterv (ok := (fun k_ => ((P0_10_ k_ ∨ P0_11_ k_) ∨ w.heap.size ≤ k_) ∧ some k_ ≠ (.slice Ao20 t526.length co20 : Value).ownBlock ∧ k_ ≠ gb518)) (by (with_reducible repeat (first | apply Kd.V_alloc | apply Kd.V_drewN | apply Kd.V_drew)); exact Kd.V_mono HO_519011.out (fun _ hk => ⟨⟨hk.1.1, ⟨hk.2, hk.1.2.2⟩⟩, hk.1.2.1⟩)) hg hat); have n2_ := am (blk_grown (g := gb518) (o := .cells #[.int .i64 a0_0, .int .i64 a0_1, .string a0_2, .int .i64 a0_3, .int .i64 a0_4, .slice A0_5 l0_5.length c0_5, .slice A0_6 l0_6.length c0_6, .slice A0_7 l0_7.length c0_7, .slice A0_8 l0_8.length c0_8, .slice A0_9 l0_9.length c0_9, .slice (some ad525) l0_10.length c0_10, .slice A0_11 l0_11.length c0_11] 47 (0, 0)) bkw hg (Kd.N_ne HO_3.out BK518.out (by decide))); have n3_ := am (Kd.V_afterv (ok := (fun k_ => ((P0_10_ k_ ∨ P0_11_ k_) ∨ w.heap.size ≤ k_) ∧ some k_ ≠ (.slice Ao20 t526.length co20 : Value).ownBlock ∧ k_ ≠ gb518)) (by (with_reducible repeat (first | apply Kd.V_alloc | apply Kd.V_drewN | apply Kd.V_drew)); exact Kd.V_mono HL525_5.out (fun _ hk => ⟨⟨hk.1.1, ⟨hk.2, hk.1.2.2⟩⟩, hk.1.2.1⟩)) hg hat); have n4_ := am (Kd.V_afterv (ok := (fun k_ => ((P0_10_ k_ ∨ P0_11_ k_) ∨ w.heap.size ≤ k_) ∧ some k_ ≠ (.slice Ao20 t526.length co20 : Value).ownBlock ∧ k_ ≠ gb518)) (by (with_reducible repeat (first | apply Kd.V_alloc | apply Kd.V_drewN | apply Kd.V_drew)); exact Kd.V_mono HL525_6.out (fun _ hk => ⟨⟨hk.1.1, ⟨hk.2, hk.1.2.2⟩⟩, hk.1.2.1⟩)) hg hat); have n5_ := am (Kd.V_afterv (ok := (fun k_ => ((P0_10_ k_ ∨ P0_11_ k_) ∨ w.heap.size ≤ k_) ∧ some k_ ≠ (.slice Ao20 t526.length co20 : Value).ownBlock ∧ k_ ≠ gb518)) (by (with_reducible repeat (first | apply Kd.V_alloc | apply Kd.V_drewN | apply Kd.V_drew)); exact Kd.V_mono HL525_7.out (fun _ hk => ⟨⟨hk.1.1, ⟨hk.2, hk.1.2.2⟩⟩, hk.1.2.1⟩)) hg hat); have n6_ := am (Kd.V_afterv (ok := (fun k_ => ((P0_10_ k_ ∨ P0_11_ k_) ∨ w.heap.size ≤ k_) ∧ some k_ ≠ (.slice Ao20 t526.length co20 : Value).ownBlock ∧ k_ ≠ gb518)) (by (with_reducible repeat (first | apply Kd.V_alloc | apply Kd.V_drewN | apply Kd.V_drew)); exact Kd.V_mono HL525_8.out (fun _ hk => ⟨⟨hk.1.1, ⟨hk.2, hk.1.2.2⟩⟩, hk.1.2.1⟩)) hg hat); have n7_ := am (Kd.V_afterv (ok := (fun k_ => ((P0_10_ k_ ∨ P0_11_ k_) ∨ w.heap.size ≤ k_) ∧ some k_ ≠ (.slice Ao20 t526.length co20 : Value).ownBlock ∧ k_ ≠ gb518)) (by (with_reducible repeat (first | apply Kd.V_alloc | apply Kd.V_drewN | apply Kd.V_drew)); exact Kd.V_mono HL525_9.out (fun _ hk => ⟨⟨hk.1.1, ⟨hk.2, hk.1.2.2⟩⟩, hk.1.2.1⟩)) hg hat); have n8_ := am (Kd.V_afterv (ok := (fun k_ => ((P0_10_ k_ ∨ P0_11_ k_) ∨ w.heap.size ≤ k_) ∧ some k_ ≠ (.slice Ao20 t526.length co20 : Value).ownBlock ∧ k_ ≠ gb518)) (by (with_reducible repeat (first | apply Kd.V_alloc | apply Kd.V_drewN | apply Kd.V_drew)); exact Kd.V_mono HL525_10.out (fun _ hk => ⟨⟨hk.1.1, ⟨hk.2, hk.1.2.2⟩⟩, hk.1.2.1⟩)) hg hat); have n9_ := am (Kd.V_afterv (ok := (fun k_ => ((P0_10_ k_ ∨ P0_11_ k_) ∨ w.heap.size ≤ k_) ∧ some k_ ≠ (.slice Ao20 t526.length co20 : Value).ownBlock ∧ k_ ≠ gb518)) (by (with_reducible repeat (first | apply Kd.V_alloc | apply Kd.V_drewN | apply Kd.V_drew)); exact Kd.V_mono HL525_11.out (fun _ hk => ⟨⟨hk.1.1, ⟨hk.2, hk.1.2.2⟩⟩, hk.1.2.1⟩)) hg hat); have n10_ := am (Kd.N_afterv (ok := (fun k_ => ((P0_10_ k_ ∨ P0_11_ k_) ∨ w.heap.size ≤ k_) ∧ k_ ≠ gb518)) (by (with_reducible repeat (first | apply Kd.N_alloc | apply Kd.N_drewN | apply Kd.N_drew)); exact Kd.N_mono HO528.out (fun _ hk => ⟨⟨hk.1, hk.2.2⟩, hk.2.1⟩)) hg hat); have n11_ := am (hb); have n12_ := am (ho); clear HO_519010; clear HO_519011; clear BK518; clear HL525_5; clear HL525_6; clear HL525_7; clear HL525_8; clear HL525_9; clear HL525_10; clear HL525_11; clear HO528; clear HB; clear HO_3; revert n0_ n1_ n2_ n3_ n4_ n5_ n6_ n7_ n8_ n9_ n10_ n11_ n12_; intro HO_519010 HO_519011 BK518 HL525_5 HL525_6 HL525_7 HL525_8 HL525_9 HL525_10 HL525_11 HO528 HB HO531; clear ho hb hg hat))
   go_roundg k1
   case measure => have := HK1.out; omega
   case rel => exact ⟨(y529), (wrap64 (x4_1 + 1)), rfs, H', ⟨by have := HK1.out; omega⟩, ⟨by (with_reducible repeat (first | apply Kd.N_alloc | apply Kd.N_drewN | apply Kd.N_drew)); exact HO531.out⟩, ⟨by (with_reducible repeat (first | apply Kd.V_alloc | apply Kd.V_drewN | apply Kd.V_drew)); exact Kd.V_mono HO_519010.out (fun _ hk => ⟨hk.1.1, ⟨hk.2, hk.1.2.2⟩⟩)⟩, ⟨by (with_reducible repeat (first | apply Kd.V_alloc | apply Kd.V_drewN | apply Kd.V_drew)); exact Kd.V_mono HO_519011.out (fun _ hk => ⟨hk.1.1, ⟨hk.2, hk.1.2.2⟩⟩)⟩, ⟨bkw⟩, ⟨blw⟩⟩

-- NOT PRINTED: function 18 (impl_Head_nested)

-- NOT PRINTED: function 9 (impl_CountComps)

-- NOT PRINTED: function 3 (laws_FnExactCountComps)

/-! ### spec_l1Max: function 21 -/
def spec_l1Max.f (a0 : Int) (a1 : Int) : Option (Int) := if a0 > a1 then (some a0) else (some a1)
theorem spec_l1Max.calls (a0 : Int) (a1 : Int) (r : Int) (w : World) (h : spec_l1Max.f a0 a1 = some r) :
  Calls Try.prog 21 #[.int .i64 a0, .int .i64 a1] w fun e w' => e = .returned (.int .i64 r) ∧ Drawn0 w w' := by
 have H : (if a0 > a1 then (some a0) else (some a1)) = some r := h
 clear h
 by_cases c3 : a0 > a1
 ·rw [if_pos c3] at H
  have c3b0 : decide (a1 < a0) = true := decide_eq_true c3
  clear c3
  obtain rfl := Option.some.inj H
  go_enter Try.func21, Try.ntmps21
  go_wp2
  go_ret
  exact ⟨rfs, by repeat (first | exact Drawn0.refl _ | apply Drawn0.step)⟩
 rw [if_neg c3] at H
 have c3b0 : decide (a1 < a0) = false := decide_eq_false c3
 clear c3
 obtain rfl := Option.some.inj H
 go_enter Try.func21, Try.ntmps21
 go_wp2
 go_ret
 exact ⟨rfs, by repeat (first | exact Drawn0.refl _ | apply Drawn0.step)⟩

end Go.Proofs.Ytpkppeicceehcaa.Px
end
