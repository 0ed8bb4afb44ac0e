/- The families Head, Comp, Query of mirrored types, nested in each other: weights, copies, and what the laws' own helpers come to. No condition. -/
import Derived.Test.YtpkppeicceehcaaZCountCompsPx0
import Derived.Test.YtpkppeicceehcaaZCountCompsPlM
import Derived.Test.YtpkppeicceehcaaZCountCompsPx8M
import Derived.Test.YtpkppeicceehcaaZCountCompsPx3M
import Derived.Test.YtpkppeicceehcaaZCountCompsWLastM
section
namespace Go.Proofs.Ytpkppeicceehcaa.Px
open Go.RowKit Go.Proofs.YtpkppeicceehcaaW.PrintWords Go.Proofs.Ytpkppeicceehcaa.Pl
set_option linter.unusedVariables false
set_option linter.unusedSimpArgs false
mutual
def wtHead : S71 → Nat
  | ⟨x0, x1, x2, x3, ⟨x4⟩⟩ => wtTerm x1 + wts x2 + (x3.length + wtHeadS x3) + (x4.length + wtCompS x4)
def wtHeadS : List S71 → Nat
  | [] => 0
  | x :: r => wtHead x + wtHeadS r
def wtCompS : List S73 → Nat
  | [] => 0
  | ⟨g, t, x⟩ :: r => (g.length + wtGenS g) + wtTerm t + wtHead x + wtCompS r
end
mutual
def cvHead : S71 → S47
  | ⟨x0, x1, x2, x3, ⟨x4⟩⟩ => ⟨x0, cvTerm x1, x2, cvHeadS x3, ⟨cvCompS x4⟩⟩
def cvHeadS : List S71 → List S47
  | [] => []
  | x :: r => cvHead x :: cvHeadS r
def cvCompS : List S73 → List S49
  | [] => []
  | ⟨g, t, x⟩ :: r => ⟨cvGenS g, cvTerm t, cvHead x⟩ :: cvCompS r
end
def wtComp (x : S73) : Nat := (x.f0.length + wtGenS x.f0) + wtTerm x.f1 + wtHead x.f2
def cvComp (x : S73) : S49 := ⟨cvGenS x.f0, cvTerm x.f1, cvHead x.f2⟩
def wtQuery (x : S24) : Nat := x.f0.length + wtCompS x.f0
def cvQuery (x : S24) : S29 := ⟨cvCompS x.f0⟩
theorem wtCompS_sum (xs : List S73) : wtCompS xs = (xs.map wtComp).sum := by
  induction xs with
  | nil => simp [wtCompS]
  | cons x r ih => obtain ⟨g, t, x⟩ := x; simp [wtCompS, wtComp, ih]
theorem cvCompS_map (xs : List S73) : cvCompS xs = xs.map cvComp := by
  induction xs with
  | nil => simp [cvCompS]
  | cons x r ih => obtain ⟨g, t, x⟩ := x; simp [cvCompS, cvComp, ih]
theorem wtHeadS_sum (xs : List S71) : wtHeadS xs = (xs.map wtHead).sum := by
  induction xs with
  | nil => simp [wtHeadS]
  | cons x r ih => simp [wtHeadS, ih]
theorem cvHeadS_map (xs : List S71) : cvHeadS xs = xs.map cvHead := by
  induction xs with
  | nil => simp [cvHeadS]
  | cons x r ih => simp [cvHeadS, ih]
theorem wtHead_eq (x : S71) : wtHead x = wtTerm x.f1 + wts x.f2 + (x.f3.length + wtHeadS x.f3) + wtQuery x.f4 := by obtain ⟨_, _, _, _, ⟨_⟩⟩ := x; simp only [wtHead, wtQuery]
theorem cvHead_eq (x : S71) : cvHead x = ⟨x.f0, cvTerm x.f1, x.f2, cvHeadS x.f3, cvQuery x.f4⟩ := by obtain ⟨_, _, _, _, ⟨_⟩⟩ := x; simp only [cvHead, cvQuery]
theorem wtComp_eq (x : S73) : wtComp x = (x.f0.length + wtGenS x.f0) + wtTerm x.f1 + wtHead x.f2 := rfl
theorem cvComp_eq (x : S73) : cvComp x = ⟨cvGenS x.f0, cvTerm x.f1, cvHead x.f2⟩ := rfl
theorem wtQuery_eq (x : S24) : wtQuery x = (x.f0.length + wtCompS x.f0) := rfl
theorem cvQuery_eq (x : S24) : cvQuery x = ⟨cvCompS x.f0⟩ := rfl
theorem indHeadL {P : S71 → Prop} (h : ∀ x, (∀ y ∈ x.f3, P y) → (∀ y ∈ x.f4.f0, P y.f2) → P x) : ∀ x, P x
  | ⟨x0, x1, x2, x3, ⟨x4⟩⟩ => h _ (fun y hy => indHeadL h y) (fun y hy => indHeadL h y.f2)
termination_by x => SizeOf.sizeOf x
decreasing_by
  · have := List.sizeOf_lt_of_mem hy
    simp at this ⊢
    omega
  · have h1 := List.sizeOf_lt_of_mem hy
    have h2 : SizeOf.sizeOf y.f2 < SizeOf.sizeOf y := by obtain ⟨_, _, _⟩ := y; simp; omega
    simp at h1 ⊢
    omega
theorem indHeadI {P : S47 → Prop} (h : ∀ x, (∀ y ∈ x.f3, P y) → (∀ y ∈ x.f4.f0, P y.f2) → P x) : ∀ x, P x
  | ⟨x0, x1, x2, x3, ⟨x4⟩⟩ => h _ (fun y hy => indHeadI h y) (fun y hy => indHeadI h y.f2)
termination_by x => SizeOf.sizeOf x
decreasing_by
  · have := List.sizeOf_lt_of_mem hy
    simp at this ⊢
    omega
  · have h1 := List.sizeOf_lt_of_mem hy
    have h2 : SizeOf.sizeOf y.f2 < SizeOf.sizeOf y := by obtain ⟨_, _, _⟩ := y; simp; omega
    simp at h1 ⊢
    omega
inductive SmHead : S47 → Prop
  | mk {x : S47} : ((Lit.int .i64 x.f0).wf = true) → SmTerm x.f1 → ((x.f2.length ≤ 1048576 ∧ ∀ y ∈ x.f2, y.size ≤ 1048576)) → x.f3.length ≤ 1048576 → (∀ y ∈ x.f3, SmHead y) → x.f4.f0.length ≤ 1048576 → (∀ z ∈ x.f4.f0, (z.f0.length ≤ 1048576 ∧ ∀ y ∈ z.f0, SmGen y)) → (∀ z ∈ x.f4.f0, SmTerm z.f1) → (∀ z ∈ x.f4.f0, SmHead z.f2) → SmHead x
def SmComp (x : S49) : Prop := ((x.f0.length ≤ 1048576 ∧ ∀ y ∈ x.f0, SmGen y)) ∧ (SmTerm x.f1) ∧ (SmHead x.f2)
theorem SmComp.p0 {x : S49} (h : SmComp x) : (x.f0.length ≤ 1048576 ∧ ∀ y ∈ x.f0, SmGen y) := h.1
theorem SmComp.p1 {x : S49} (h : SmComp x) : SmTerm x.f1 := h.2.1
theorem SmComp.p2 {x : S49} (h : SmComp x) : SmHead x.f2 := h.2.2
def SmQuery (x : S29) : Prop := ((x.f0.length ≤ 1048576 ∧ ∀ y ∈ x.f0, SmComp y))
theorem SmQuery.p0 {x : S29} (h : SmQuery x) : (x.f0.length ≤ 1048576 ∧ ∀ y ∈ x.f0, SmComp y) := h
theorem SmHead.p0 {x : S47} (h : SmHead x) : (Lit.int .i64 x.f0).wf = true := by cases h; assumption
theorem SmHead.p1 {x : S47} (h : SmHead x) : SmTerm x.f1 := by cases h; assumption
theorem SmHead.p2 {x : S47} (h : SmHead x) : (x.f2.length ≤ 1048576 ∧ ∀ y ∈ x.f2, y.size ≤ 1048576) := by cases h; assumption
theorem SmHead.p3 {x : S47} (h : SmHead x) : x.f3.length ≤ 1048576 ∧ ∀ y ∈ x.f3, SmHead y := by cases h; constructor <;> assumption
theorem SmHead.p4 {x : S47} (h : SmHead x) : SmQuery x.f4 := by cases h with | mk _ _ _ _ _ l_ q0 q1 q2 => exact ⟨l_, fun y hy => ⟨q0 y hy, q1 y hy, q2 y hy⟩⟩
theorem etaHead (x : S47) : (⟨x.f0, (⟨x.f1.f0, x.f1.f1, x.f1.f2, (⟨x.f1.f3.f0, x.f1.f3.f1, x.f1.f3.f2⟩ : S41), x.f1.f4, x.f1.f5⟩ : S44), x.f2, x.f3, (⟨x.f4.f0⟩ : S29)⟩ : S47) = x := by obtain ⟨_, ⟨_, _, _, ⟨_, _, _⟩, _, _⟩, _, _, ⟨_⟩⟩ := x; rfl
theorem etaComp (x : S49) : (⟨x.f0, (⟨x.f1.f0, x.f1.f1, x.f1.f2, (⟨x.f1.f3.f0, x.f1.f3.f1, x.f1.f3.f2⟩ : S41), x.f1.f4, x.f1.f5⟩ : S44), (⟨x.f2.f0, (⟨x.f2.f1.f0, x.f2.f1.f1, x.f2.f1.f2, (⟨x.f2.f1.f3.f0, x.f2.f1.f3.f1, x.f2.f1.f3.f2⟩ : S41), x.f2.f1.f4, x.f2.f1.f5⟩ : S44), x.f2.f2, x.f2.f3, (⟨x.f2.f4.f0⟩ : S29)⟩ : S47)⟩ : S49) = x := by obtain ⟨_, ⟨_, _, _, ⟨_, _, _⟩, _, _⟩, ⟨_, ⟨_, _, _, ⟨_, _, _⟩, _, _⟩, _, _, ⟨_⟩⟩⟩ := x; rfl
theorem smComp_from (x : S73) (hw : W73 x) (hw2 : wtComp x ≤ 1048576) (h : W71 x.f2 → wtHead x.f2 ≤ 1048576 → SmHead (cvHead x.f2)) : SmComp (cvComp x) := by
  have hb := hw2
  rw [wtComp_eq] at hb
  rw [cvComp_eq]
  exact ⟨⟨by (try dsimp only); rw [cvGenS_map, List.length_map]; omega, fun z hz => by
      (try dsimp only at hz)
      rw [cvGenS_map] at hz
      obtain ⟨y, hy, rfl⟩ := List.mem_map.1 hz
      exact smGen_of y (hw.1.2 y hy) (by have := sum_le_of_mem wtGen hy; rw [← wtGenS_sum] at this; omega)⟩, smTerm_of _ hw.2.1 (by omega), h hw.2.2 (by omega)⟩
theorem smHead_of : ∀ x : S71, W71 x → wtHead x ≤ 1048576 → SmHead (cvHead x) := by
  refine indHeadL fun x ih ihq hw hw2 => ?_
  have hb := hw2
  rw [wtHead_eq, wtQuery_eq] at hb
  rw [cvHead_eq, cvQuery_eq]
  have hc : ∀ y ∈ x.f4.f0, SmComp (cvComp y) := fun y hy => smComp_from y (hw.p4.2 y hy) (by have := sum_le_of_mem wtComp hy; rw [← wtCompS_sum] at this; omega) (ihq y hy)
  exact SmHead.mk hw.p0 (smTerm_of _ hw.p1 (by omega)) (⟨by (try dsimp only); unfold wts at hb; omega, fun y hy => by (try dsimp only at hy); have := sum_le_of_mem ByteArray.size hy; unfold wts szs at hb; omega⟩) (by (try dsimp only); rw [cvHeadS_map, List.length_map]; omega) (fun z hz => by
      (try dsimp only at hz)
      rw [cvHeadS_map] at hz
      obtain ⟨y, hy, rfl⟩ := List.mem_map.1 hz
      exact ih y hy (hw.p3.2 y hy) (by have := sum_le_of_mem wtHead hy; rw [← wtHeadS_sum] at this; omega)) (by (try dsimp only); rw [cvCompS_map, List.length_map]; omega) (fun z hz => by
      (try dsimp only at hz)
      rw [cvCompS_map] at hz
      obtain ⟨y, hy, rfl⟩ := List.mem_map.1 hz
      exact (hc y hy).1) (fun z hz => by
      (try dsimp only at hz)
      rw [cvCompS_map] at hz
      obtain ⟨y, hy, rfl⟩ := List.mem_map.1 hz
      exact (hc y hy).2.1) (fun z hz => by
      (try dsimp only at hz)
      rw [cvCompS_map] at hz
      obtain ⟨y, hy, rfl⟩ := List.mem_map.1 hz
      exact (hc y hy).2.2)
theorem smComp_of (x : S73) (hw : W73 x) (hw2 : wtComp x ≤ 1048576) : SmComp (cvComp x) := smComp_from x hw hw2 (smHead_of x.f2)
theorem smQuery_of (x : S24) (hw : W24 x) (hw2 : wtQuery x ≤ 1048576) : SmQuery (cvQuery x) := by
  have hb := hw2
  rw [wtQuery_eq] at hb
  rw [cvQuery_eq]
  exact ⟨by (try dsimp only); rw [cvCompS_map, List.length_map]; omega, fun z hz => by
      (try dsimp only at hz)
      rw [cvCompS_map] at hz
      obtain ⟨y, hy, rfl⟩ := List.mem_map.1 hz
      exact smComp_of y (hw.2 y hy) (by have := sum_le_of_mem wtComp hy; rw [← wtCompS_sum] at this; omega)⟩
end Go.Proofs.Ytpkppeicceehcaa.Px
end
section
namespace Go.Proofs.Ytpkppeicceehcaa.Px
open Go.RowKit Go.Proofs.YtpkppeicceehcaaW.PrintWords Go.Proofs.YtpkppeicceehcaaW.PrintLast Go.Proofs.YtpkppeicceehcaaW.PrintMore Go.Proofs.Ytpkppeicceehcaa.Pl Go.Proofs.Ytpkppeicceehcaa.Ext
set_option linter.unusedVariables false
set_option linter.unusedSimpArgs false
mutual
def acCcH : S47 → Nat → Nat
  | ⟨a, _, _, ps, ⟨cs⟩⟩, n => if a = 3 then n + acCcC cs cs.length else acCcP ps n
def acCcP : List S47 → Nat → Nat
  | [], n => n
  | x :: r, n => acCcP r (acCcH x n)
def acCcC : List S49 → Nat → Nat
  | [], n => n
  | ⟨_, _, x⟩ :: r, n => acCcC r (acCcH x n)
end
def qvCc (cs : List S49) : Nat := acCcC cs cs.length
theorem acCcH_eq (x : S47) (n : Nat) : acCcH x n = if x.f0 = 3 then (let cs := x.f4.f0; n + qvCc cs) else acCcP x.f3 n := by
  obtain ⟨_, _, _, _, ⟨_⟩⟩ := x
  simp only [acCcH, qvCc]
theorem acCcC_cons (x : S49) (r : List S49) (n : Nat) : acCcC (x :: r) n = acCcC r (acCcH x.f2 n) := by
  obtain ⟨_, _, _⟩ := x
  simp only [acCcC]
mutual
def ndCcH : S47 → Nat
  | ⟨_, _, _, ps, ⟨cs⟩⟩ => ndCcP ps + (1 + cs.length + ndCcC cs)
def ndCcP : List S47 → Nat
  | [] => 0
  | x :: r => ndCcH x + ndCcP r
def ndCcC : List S49 → Nat
  | [] => 0
  | ⟨_, _, x⟩ :: r => ndCcH x + ndCcC r
end
theorem ndCcH_eq (x : S47) : ndCcH x = ndCcP x.f3 + (1 + x.f4.f0.length + ndCcC x.f4.f0) := by
  obtain ⟨_, _, _, _, ⟨_⟩⟩ := x
  simp only [ndCcH]
theorem ndCcC_cons (x : S49) (r : List S49) : ndCcC (x :: r) = ndCcH x.f2 + ndCcC r := by
  obtain ⟨_, _, _⟩ := x
  simp only [ndCcC]
theorem acCcP_le : ∀ (xs : List S47), (∀ x ∈ xs, ∀ n, acCcH x n ≤ n + ndCcH x) → ∀ n, acCcP xs n ≤ n + ndCcP xs
  | [], _, n => by simp [acCcP]
  | x :: r, h, n => by
    have h1 := h x (List.mem_cons_self ..) n
    have h2 := acCcP_le r (fun y hy => h y (List.mem_cons_of_mem _ hy)) (acCcH x n)
    simp only [acCcP, ndCcP]
    omega
theorem acCcC_le : ∀ (xs : List S49), (∀ x ∈ xs, ∀ n, acCcH x.f2 n ≤ n + ndCcH x.f2) → ∀ n, acCcC xs n ≤ n + ndCcC xs
  | [], _, n => by simp [acCcC]
  | x :: r, h, n => by
    have h1 := h x (List.mem_cons_self ..) n
    have h2 := acCcC_le r (fun y hy => h y (List.mem_cons_of_mem _ hy)) (acCcH x.f2 n)
    rw [acCcC_cons, ndCcC_cons]
    omega
theorem acCcH_le : ∀ (x : S47) (n : Nat), acCcH x n ≤ n + ndCcH x := by
  refine indHeadI fun x ih ihq n => ?_
  rw [acCcH_eq, ndCcH_eq]
  by_cases h : x.f0 = 3
  · rw [if_pos h]
    have := acCcC_le x.f4.f0 ihq (x.f4.f0.length)
    simp only [qvCc]
    omega
  · rw [if_neg h]
    have := acCcP_le x.f3 ih n
    omega
theorem qvCc_le (cs : List S49) : qvCc cs ≤ 1 + cs.length + ndCcC cs := by
  have := acCcC_le cs (fun x _ => acCcH_le x.f2) (cs.length)
  unfold qvCc
  omega
theorem ndCcP_mem {xs : List S47} {y : S47} (h : y ∈ xs) : ndCcH y ≤ ndCcP xs := by
  induction xs with
  | nil => cases h
  | cons x r ih =>
    rw [ndCcP]
    rcases List.mem_cons.1 h with rfl | h
    · omega
    · have := ih h; omega
theorem ndCcC_mem {xs : List S49} {y : S49} (h : y ∈ xs) : ndCcH y.f2 ≤ ndCcC xs := by
  induction xs with
  | nil => cases h
  | cons x r ih =>
    rw [ndCcC_cons]
    rcases List.mem_cons.1 h with rfl | h
    · omega
    · have := ih h; omega
theorem dropCcH (xs : List S47) (i : Nat) (h : i < xs.length) : xs.drop i = rd_T47 xs (i : Int) :: xs.drop (i + 1) := by
  rw [List.drop_eq_getElem_cons h]
  congr 1
  simp [rd_T47, List.getD_eq_getElem?_getD, h]
theorem dropCcC (xs : List S49) (i : Nat) (h : i < xs.length) : xs.drop i = rd_T49 xs (i : Int) :: xs.drop (i + 1) := by
  rw [List.drop_eq_getElem_cons h]
  congr 1
  simp [rd_T49, List.getD_eq_getElem?_getD, h]
def GoCcQ (cs : List S49) : Prop := ∀ (A : Option Addr) (c : Nat) (w : World), Kd.C k49 w A cs.length cs → cs.length ≤ c →
    Calls Try.prog 9 #[.agg #[.slice A cs.length c]] w fun e w' => e = .returned (.int .i64 ((qvCc cs : Nat) : Int)) ∧ Below w.heap.size w w'
def GoCcH (x : S47) : Prop := ∀ (ad0 : Addr) (A10 : Option Addr) (c10 : Nat) (A11 : Option Addr) (c11 : Nat) (w0 w : World) (bo n : Nat), w0.cell? ad0 = some (.int .i64 x.f0) → w0.cell? ⟨ad0.block, ad0.off + 10, none⟩ = some (.slice A10 x.f3.length c10) → w0.cell? ⟨ad0.block, ad0.off + 11, none⟩ = some (.slice A11 x.f4.f0.length c11) →
    Kd.C k47 w0 A10 x.f3.length x.f3 → Kd.C k49 w0 A11 x.f4.f0.length x.f4.f0 → x.f4.f0.length ≤ c11 → w0.heap.size ≤ bo → n + ndCcH x ≤ 1099511627776 → w.heap[bo]? = some (.cells #[.int .i64 ((n : Nat) : Int)] 3 (0, 0)) → Below w0.heap.size w0 w →
    Calls Try.prog 18 #[.pointer (some ad0), .func (.func 19) #[] #[.pointer (some ⟨bo, 0, none⟩)]] w fun e w' => e = .returned (.tuple #[]) ∧ w'.heap[bo]? = some (.cells #[.int .i64 ((acCcH x n : Nat) : Int)] 3 (0, 0)) ∧ Below w0.heap.size w0 w'
def tabCcFn.T0 : Bool × List (List Nat × List Nat) := (true, [([], []), ([], []), ([1], [1]), ([2], [2]), ([3], [3]), ([0, 4], [0, 4]), ([5, 4, 0, 1, 2, 3, 4, 5], [5])])
def tabCcFn.B0 : List Nat := [0, 0, 2, 6, 14, 31, 63]
theorem tabCcFn.tab0 : rtab .any (opsOf Try.f19 0) = tabCcFn.T0 := by kernel_rfl
theorem tabCcFn.bits0 : waitsOk tabCcFn.T0.2 tabCcFn.B0 = true := by kernel_rfl
set_option maxHeartbeats 4000000 in
set_option maxRecDepth 100000 in
theorem closeCc_go (cs : List S49) (hq : GoCcQ cs) (adq : Addr) (A : Option Addr) (c : Nat) (w0 w : World) (bo n : Nat) (hcell : w0.cell? adq = some (.slice A cs.length c)) (hr : Kd.C k49 w0 A cs.length cs) (hc : cs.length ≤ c) (hbo : w0.heap.size ≤ bo) (hn : n + qvCc cs ≤ 1099511627776) (bo_ : w.heap[bo]? = some (.cells #[.int .i64 ((n : Nat) : Int)] 3 (0, 0))) (hb : Below w0.heap.size w0 w) :
    Calls Try.prog 19 #[.pointer (some adq), .pointer (some ⟨bo, 0, none⟩)] w fun e w' => e = .returned (.tuple #[]) ∧ w'.heap[bo]? = some (.cells #[.int .i64 ((n + qvCc cs : Nat) : Int)] 3 (0, 0)) ∧ Below w0.heap.size w0 w' := by
  have HQ := Aside0.mk hcell; have HR := Aside0.mk hr; have HC := Aside0.mk hc; have HBO := Aside0.mk hbo; have HN := Aside0.mk hn; have BO := Aside0.mk bo_; have HB := Aside0.mk hb; have HG := Aside0.mk hq
  clear hcell hr hc hbo hn bo_ hb hq
  have hw_ : Aside0 (wrap64 (((n : Nat) : Int) + ((qvCc cs : Nat) : Int)) = ((n + qvCc cs : Nat) : Int)) := ⟨by have := HN.out; rw [Int.natCast_add]; unfold wrap64; omega⟩
  have hu29 := Try.underlying29
  go_enter Try.func19, Try.ntmps19
  try go_wp2
  replace BO := Aside0.mk (blk_drew BO.out)
  replace HB := Aside0.mk (below_drew1 HB.out)
  refine start_ (n := 7) (S := fun w' => w'.cell? ⟨bo, 0, none⟩ = some (.int .i64 ((n : Nat) : Int)) ∧ w'.cell? adq = some (.slice A cs.length c)) (ds := [6]) #[false, false, false, false, false, false, false] (by kernel_rfl) rfl rfl ⟨(blk_cell BO.out 0).trans rfl, pw_cell_below HB.out HQ.out⟩ (fun hHeld => ?_); refine with_tabW tabCcFn.tab0 tabCcFn.bits0 (fun HT_ HW_ => ?_)
  generalize w.drew = w1 at BO HB hHeld ⊢
  refine take_ (i := 0) (N := some 3) (v := ?_) (a' := ?_) #[true, false, false, false, false, false, false] rfl rfl (take_ofW HT_.out HW_.out (by kernel_rfl)) (fun _ _ _ h => h) (Or.inl ⟨by rfl, ?_⟩) hHeld ?_ ?_
  rotate_left
  · rintro w' ⟨s0, s1⟩
    go_simp
    with_reducible rfl
  rotate_left
  · simp only [Act.put, List.setIfInBounds_toArray, List.set_cons_zero, List.set_cons_succ, i64_w, i32_w]
    rfl
  refine pure_ (i := 1) (N := some 4) (v := ?_) (a' := ?_) #[true, true, false, false, false, false, false] rfl rfl (any_of HT_.out (by kernel_rfl)) (fun _ _ _ h => h) (Or.inl ⟨by rfl, ?_⟩) ?_ ?_
  rotate_left
  · intro w'
    go_simp
    try with_reducible rfl
  rotate_left
  · simp only [Act.put, List.setIfInBounds_toArray, List.set_cons_zero, List.set_cons_succ, i64_w, i32_w]
    rfl
  refine pure_ (i := 2) (N := some 5) (v := ?_) (a' := ?_) #[true, true, true, false, false, false, false] rfl rfl (any_of HT_.out (by kernel_rfl)) (fun _ _ _ h => h) (Or.inl ⟨by rfl, ?_⟩) ?_ ?_
  rotate_left
  · intro w'
    go_simp
    try with_reducible rfl
  rotate_left
  · simp only [Act.put, List.setIfInBounds_toArray, List.set_cons_zero, List.set_cons_succ, i64_w, i32_w]
    rfl
  refine take_ (i := 3) (N := some 6) (v := ?_) (a' := ?_) #[true, true, true, true, false, false, false] rfl rfl (take_ofW HT_.out HW_.out (by kernel_rfl)) (fun _ _ _ h => h) (Or.inl ⟨by rfl, ?_⟩) hHeld ?_ ?_
  rotate_left
  · rintro w' ⟨s0, s1⟩
    go_simp
    with_reducible rfl
  rotate_left
  · simp only [Act.put, List.setIfInBounds_toArray, List.set_cons_zero, List.set_cons_succ, i64_w, i32_w]
    rfl
  refine one_ (i := 4) (N := some 7) #[true, true, true, true, true, false, false] rfl rfl (one_of HT_.out (by kernel_rfl)) (by decide) (fun K hK => ?_)
  refine goes_ Try.func9 (by kernel_rfl) rfl #[.agg #[.slice A cs.length c]] (by rfl) rfl rfl (by (try simp only [List.map_toArray, List.map_cons, List.map_nil]); first | done | rfl | (simp only [List.length_drop, List.length_take]; rfl)) ?_
  refine (HG.out A c w1 (Kd.C_below HR.out HB.out) HC.out).mono ?_
  rintro e w2 ⟨rfl, hd⟩
  refine ⟨_, rfl, ?_⟩
  replace BO := Aside0.mk (blk_below BO.out hd)
  replace HB := Aside0.mk (below_step HB.out hd)
  clear hd
  refine hK.out _ _ ⟨(blk_cell BO.out 0).trans rfl, pw_cell_below HB.out HQ.out⟩ (fun hHeld => ?_)
  clear hK K
  refine norm_ (a' := ?_) ?_ ?_
  rotate_left
  · show Act.put _ (some 7) _ = _
    simp only [Act.put, List.setIfInBounds_toArray, List.set_cons_zero, List.set_cons_succ, i64_w, i32_w]
    rfl
  refine pure_ (i := 5) (N := some 8) (v := ?_) (a' := ?_) #[true, true, true, true, true, true, false] rfl rfl (any_of HT_.out (by kernel_rfl)) (fun _ _ _ h => h) (Or.inl ⟨by rfl, ?_⟩) ?_ ?_
  rotate_left
  · intro w'
    go_simp
    try with_reducible rfl
  rotate_left
  · simp only [Act.put, List.setIfInBounds_toArray, List.set_cons_zero, List.set_cons_succ, i64_w, i32_w]
    rfl
  refine last_ (i := 6) (N := none) #[true, true, true, true, true, true, true] rfl rfl (one_of HT_.out (by kernel_rfl)) (by decide) (fun K hK => ?_)
  have hs42 : w2.cell? ⟨bo, 0, none⟩ = some (.int .i64 ((n : Nat) : Int)) := (blk_cell BO.out 0).trans rfl
  have hfs42 := blk_frozen BO.out 0
  refine skip_ (w1 := ?_) (by rfl) rfl ?_ ?_
  rotate_left
  · go_simp
    rfl
  refine hK.out _ _ ?_
  clear hK K
  refine done_ (done_of HT_.out (by kernel_rfl)) ?_
  clear HT_ HW_
  clear hs42 hfs42
  try go_wp2
  all_goals (first | go_ret | go_end0 | refine bodyPost_ret (results_none rfl _ _ _) rfl ?_)
  all_goals exact ⟨rfl, by rw [← hw_.out]; exact blk_put (cs := #[.int .i64 ((n : Nat) : Int)]) BO.out 0 _ rfl, below_set HB.out HBO.out⟩
set_option maxHeartbeats 8000000 in
set_option maxRecDepth 100000 in
theorem nestCc_go (x : S47) (hs : SmHead x) (ih : ∀ y ∈ x.f3, GoCcH y) (ihq : GoCcQ x.f4.f0) : GoCcH x := by
  intro ad0 A10 c10 A11 c11 w0 w bo n h0 h10 h11 r10 r11 l11 hbo hn bo_ hb
  have H0 := Aside0.mk h0; have H10 := Aside0.mk h10; have H11 := Aside0.mk h11; have R10 := Aside0.mk r10; have R11 := Aside0.mk r11; have L11 := Aside0.mk l11; have HBO := Aside0.mk hbo; have HN := Aside0.mk hn; have BO := Aside0.mk bo_; have HB := Aside0.mk hb; have HIH := Aside0.mk ih; have HL := Aside0.mk hs.p3.1
  have HCL := Aside0.mk (closeCc_go x.f4.f0 ihq)
  have HE := Aside0.mk (acCcH_eq x n); have HND := Aside0.mk (ndCcH_eq x); have HQL := Aside0.mk (qvCc_le x.f4.f0)
  clear h0 h10 h11 r10 r11 l11 hbo hn bo_ hb hs ih ihq
  have hx0 : w.cell? ad0 = some (.int .i64 x.f0) := pw_cell_below HB.out H0.out
  have hx10 : w.cell? ⟨ad0.block, ad0.off + 10, none⟩ = some (.slice A10 x.f3.length c10) := pw_cell_below HB.out H10.out
  go_enter Try.func18, Try.ntmps18
  by_cases h1 : x.f0 = 3
  · have c1 : (x.f0 == 3) = true := beq_iff_eq.mpr h1
    have HX1 := Aside0.mk h1
    clear h1
    go_wp2_with (first | (((with_reducible refine gate_calleev (t := 10) rfl ?_); refine goesV1_ 10 (some 14) rfl rfl rfl Try.func19 (by kernel_rfl) rfl #[.pointer (some ⟨ad0.block, ad0.off + 11, none⟩), .pointer (some ⟨bo, 0, none⟩)] rfl (by (try simp only [List.map_toArray, List.map_cons, List.map_nil]); first | done | rfl | (simp only [List.length_drop, List.length_take]; rfl)) ?_; refine (HCL.out ⟨ad0.block, ad0.off + 11, none⟩ A11 c11 w0 w bo n H11.out R11.out L11.out HBO.out (by have := HQL.out; have := HND.out; have := HN.out; omega) BO.out HB.out).mono ?_; rintro e w2 ⟨rfl, ho, hb⟩; refine ⟨_, rfl, ?_⟩; have HO := Aside0.mk ho; have HB2 := Aside0.mk hb; clear ho hb)))
    (first | go_ret | go_end0 | refine bodyPost_ret (results_none rfl _ _ _) rfl ?_)
    exact ⟨rfl, by rw [HE.out, if_pos HX1.out]; exact HO.out, HB2.out⟩
  · have c1 : (x.f0 == 3) = false := beq_eq_false_iff_ne.mpr h1
    have HX1 := Aside0.mk h1
    replace HE := Aside0.mk (HE.out.trans (if_neg h1))
    clear h1
    go_wp2
    go_loopg [4, 20] x.f3.length (fun gq v4 v20 w' => ∃ (i m : Nat), v20 = .int .i64 (i : Int) ∧ Aside0 (i + gq = x.f3.length ∧ m + ndCcP (x.f3.drop i) ≤ 1099511627776 ∧ acCcP (x.f3.drop i) m = acCcH x n) ∧ Aside0 (w'.heap[bo]? = some (.cells #[.int .i64 ((m : Nat) : Int)] 3 (0, 0))) ∧ Aside0 (Below w0.heap.size w0 w'))
    case atStart => exact ⟨0, n, by first | rfl | simp, ⟨by omega, by rw [List.drop_zero]; have := HN.out; have := HND.out; omega, by rw [List.drop_zero, HE.out]⟩, BO, HB⟩
    case round =>
      clear BO HB hx0 hx10
      obtain ⟨i, m, rfl, HI, BO, HB⟩ := hrel
      have hx10 : wr.cell? ⟨ad0.block, ad0.off + 10, none⟩ = some (.slice A10 x.f3.length c10) := pw_cell_below HB.out H10.out
      by_cases d1 : i < x.f3.length
      · have d2 : (i : Int) < (x.f3.length : Int) := by omega
        have d4 : decide ((i : Int) < (x.f3.length : Int)) = true := decide_eq_true d2
        have d3 := eq_true d2
        have d5 : (0 ≤ (i : Int)) = True := eq_true (by omega)
        have hmem : rd_T47 x.f3 (i : Int) ∈ x.f3 := mem_getD x.f3 z47 i d1
        have hdr : Aside0 (x.f3.drop i = rd_T47 x.f3 (i : Int) :: x.f3.drop (i + 1)) := ⟨dropCcH x.f3 i d1⟩
        have hnd2 : Aside0 (ndCcP (x.f3.drop i) = ndCcH (rd_T47 x.f3 (i : Int)) + ndCcP (x.f3.drop (i + 1))) := ⟨by rw [hdr.out, ndCcP]⟩
        have HY := Aside0.mk (HIH.out _ hmem)
        have hw1 : Aside0 (wrap64 ((i : Int) + 1) = ((i + 1 : Nat) : Int)) := ⟨Pl.w1 d1 (by have := HL.out; unfold maxLen; omega)⟩
        obtain ⟨ad, B5, e5, B6, e6, B7, e7, B8, e8, B9, e9, B10, e10, B11, e11, eA, y0, y1, y2, y3, y4, y5, y6, y7, y8, y9, y10, y11, m5, o5, m6, o6, m7, o7, m8, o8, m9, o9, m10, o10, m11, o11⟩ := at_T47 R10.out (i : Int) (by omega) d2
        cases eA
        have HY2 := Aside0.mk (fun w bo n => HY.out (ad.add (i * 12)) B10 e10 B11 e11 w0 w bo n y0 y10 y11 o10 o11 m11)
        have D1 := Aside0.mk d1
        clear HY d1 hmem y0 y1 y2 y3 y4 y5 y6 y7 y8 y9 y10 y11 m5 o5 m6 o6 m7 o7 m8 o8 m9 o9 m10 o10 m11 o11
        go_wp2_with (first | (((with_reducible refine gate_callee (f := 18) rfl ?_); refine goesL_ (some 30) rfl rfl Try.func18 (by kernel_rfl) rfl #[.pointer (some (ad.add (i * 12))), .func (.func 19) #[] #[.pointer (some ⟨bo, 0, none⟩)]] rfl (by (try simp only [List.map_toArray, List.map_cons, List.map_nil]); first | done | rfl | (simp only [List.length_drop, List.length_take]; rfl)) ?_; refine (HY2.out wr bo m HBO.out (by have := HI.out.2.1; have := hnd2.out; omega) BO.out HB.out).mono ?_; rintro e w5 ⟨rfl, ho, hb⟩; refine ⟨_, rfl, ?_⟩; clear BO HB; have BO := Aside0.mk ho; have HB := Aside0.mk hb; clear ho hb)))
        go_roundg (gk - 1)
        case measure => have := HI.out; have := D1.out; omega
        case rel => exact ⟨i + 1, _, (by rw [← hw1.out]), ⟨by have := HI.out; have := D1.out; omega, by have h1 := acCcH_le (rd_T47 x.f3 (i : Int)) m; have := HI.out.2.1; have := hnd2.out; omega, by rw [← HI.out.2.2, hdr.out, acCcP]⟩, BO, HB⟩
      · have d4 : decide ((i : Int) < (x.f3.length : Int)) = false := decide_eq_false (by omega)
        have d5 : ¬ ((i : Int) < (x.f3.length : Int)) := by omega
        have hz : Aside0 (m = acCcH x n) := ⟨by have h := HI.out.2.2; rw [List.drop_of_length_le (by omega)] at h; exact h⟩
        clear d1 hx10
        go_wp2
        (first | go_ret | go_end0 | refine bodyPost_ret (results_none rfl _ _ _) rfl ?_)
        exact ⟨rfl, by rw [← hz.out]; exact BO.out, HB.out⟩
set_option maxHeartbeats 8000000 in
set_option maxRecDepth 100000 in
theorem querCc_go (cs : List S49) (hl : cs.length ≤ 1048576) (hn : 1 + cs.length + ndCcC cs ≤ 1099511627776) (ih : ∀ y ∈ cs, GoCcH y.f2) : GoCcQ cs := by
  intro A c w hr hc
  have HR := Aside0.mk hr; have HC := Aside0.mk hc; have HL := Aside0.mk hl; have HN := Aside0.mk hn; have HIH := Aside0.mk ih
  clear hr hc hl hn ih
  have hu29 := Try.underlying29
  have hmf : ∀ (fn : Fn) (first cap : Array Value) (w : World), (Instr.makeFunc fn first cap).run Try.prog w = .ok (.func fn first cap) w := fun _ _ _ _ => rfl
  go_enter Try.func9, Try.ntmps9
  go_wp2_with (first
    | ((with_reducible refine gate_dst (N := 1) rfl ?_); refine box_event ?hg (N := 1) ?hd (cs := #[.slice A cs.length c]) (t := 29) ?hr ?_; (case hd => rfl); (case hg => rfl); (case hr => first | (go_simp; done) | (go_simp; rfl)); intro gb hg w1 hbox hb; have HBX := Aside0.mk hbox; have HB1 := Aside0.mk hb; have hx1 : w1.cell? ⟨gb, 0, none⟩ = some (.slice A cs.length c) := (blk_cell hbox 0).trans rfl; clear hg hbox hb)
    | ((with_reducible refine gate_dst (N := 3) rfl ?_); refine box_event ?hg (N := 3) ?hd (cs := #[.int .i64 0]) (t := 3) ?hr ?_; (case hd => rfl); (case hg => rfl); (case hr => first | (go_simp; done) | (go_simp; rfl)); intro bo hg w2 hbox hb
       have HBO := Aside0.mk (show w1.heap.size ≤ bo by rw [hg]; exact Nat.le_refl _)
       have HXO := Aside0.mk hbox
       have HB2 := Aside0.mk hb
       have hx3 : w2.cell? ⟨bo, 0, none⟩ = some (.int .i64 0) := (blk_cell hbox 0).trans rfl
       have hf3 := blk_frozen hbox 0
       clear hg hbox hb hx1)
    | ((with_reducible refine gate_store (t := 3) (p := 3) rfl ?_)
       refine store_event (t := 3) (p := 3) (v := ?vo_w3) (w1 := (w2.setCell ⟨bo, 0, none⟩ (.int .i64 (cs.length : Int)))) ?hg ?ho ?hn ?hr ?_; (case ho => rfl); (case hg => rfl); (case hn => rfl); (case hr => first | (go_simp; done) | (go_simp; rfl)); intro w3 hw
       have BO := Aside0.mk (show w3.heap[bo]? = some (.cells #[.int .i64 ((cs.length : Nat) : Int)] 3 (0, 0)) by rw [hw]; exact blk_put (cs := #[.int .i64 0]) HXO.out 0 _ rfl)
       have HB := Aside0.mk (show Below w1.heap.size w1 w3 by rw [hw]; exact below_set HB2.out HBO.out)
       have hx1 : w3.cell? ⟨gb, 0, none⟩ = some (.slice A cs.length c) := pw_cell_below HB.out ((blk_cell HBX.out 0).trans rfl)
       clear hw hx3 hf3))
  have HR1 := Aside0.mk (Kd.C_below HR.out HB1.out)
  go_loopg [4, 11] cs.length (fun gq v4 v11 w' => ∃ (i m : Nat), v11 = .int .i64 (i : Int) ∧ Aside0 (i + gq = cs.length ∧ m + ndCcC (cs.drop i) ≤ 1099511627776 ∧ acCcC (cs.drop i) m = acCcC cs (cs.length)) ∧ Aside0 (w'.heap[bo]? = some (.cells #[.int .i64 ((m : Nat) : Int)] 3 (0, 0))) ∧ Aside0 (Below w1.heap.size w1 w'))
  case atStart => exact ⟨0, cs.length, by first | rfl | simp, ⟨by omega, by rw [List.drop_zero]; have := HN.out; omega, by rw [List.drop_zero]⟩, BO, HB⟩
  case round =>
    clear BO HB hx1
    obtain ⟨i, m, rfl, HI, BO, HB⟩ := hrel
    have hx1 : wr.cell? ⟨gb, 0, none⟩ = some (.slice A cs.length c) := pw_cell_below HB.out ((blk_cell HBX.out 0).trans rfl)
    by_cases d1 : i < cs.length
    · have d2 : (i : Int) < (cs.length : Int) := by omega
      have d4 : decide ((i : Int) < (cs.length : Int)) = true := decide_eq_true d2
      have d3 := eq_true d2
      have d5 : (0 ≤ (i : Int)) = True := eq_true (by omega)
      have hmem : rd_T49 cs (i : Int) ∈ cs := mem_getD cs z49 i d1
      have hdr : Aside0 (cs.drop i = rd_T49 cs (i : Int) :: cs.drop (i + 1)) := ⟨dropCcC cs i d1⟩
      have hnd2 : Aside0 (ndCcC (cs.drop i) = ndCcH (rd_T49 cs (i : Int)).f2 + ndCcC (cs.drop (i + 1))) := ⟨by rw [hdr.out, ndCcC_cons]⟩
      have HY := Aside0.mk (HIH.out _ hmem)
      have hw1 : Aside0 (wrap64 ((i : Int) + 1) = ((i + 1 : Nat) : Int)) := ⟨Pl.w1 d1 (by have := HL.out; unfold maxLen; omega)⟩
      obtain ⟨ad, B0, e0, B5, e5, B6, e6, B7, e7, B8, e8, B14, e14, B15, e15, B16, e16, B17, e17, B18, e18, B19, e19, B20, e20, eA, y0, y1, y2, y3, y4, y5, y6, y7, y8, y9, y10, y11, y12, y13, y14, y15, y16, y17, y18, y19, y20, m0, o0, m5, o5, m6, o6, m7, o7, m8, o8, m14, o14, m15, o15, m16, o16, m17, o17, m18, o18, m19, o19, m20, o20⟩ := at_T49 HR1.out (i : Int) (by omega) d2
      cases eA
      have HY2 := Aside0.mk (fun w bo n => HY.out ⟨(ad.add (i * 21)).block, (ad.add (i * 21)).off + 9, none⟩ B19 e19 B20 e20 w1 w bo n y9 y19 y20 o19 o20 m20)
      replace hx1 : wr.cell? ⟨gb, 0, none⟩ = some (.slice (some ad) cs.length c) := hx1
      have D1 := Aside0.mk d1
      clear HY d1 hmem y0 y1 y2 y3 y4 y5 y6 y7 y8 y9 y10 y11 y12 y13 y14 y15 y16 y17 y18 y19 y20 m0 o0 m5 o5 m6 o6 m7 o7 m8 o8 m14 o14 m15 o15 m16 o16 m17 o17 m18 o18 m19 o19 m20 o20
      go_wp2_with (first | (((with_reducible refine gate_callee (f := 18) rfl ?_); refine goesL_ (some 20) rfl rfl Try.func18 (by kernel_rfl) rfl #[.pointer (some ⟨(ad.add (i * 21)).block, (ad.add (i * 21)).off + 9, none⟩), .func (.func 19) #[] #[.pointer (some ⟨bo, 0, none⟩)]] rfl (by (try simp only [List.map_toArray, List.map_cons, List.map_nil]); first | done | rfl | (simp only [List.length_drop, List.length_take]; rfl)) ?_; refine (HY2.out wr bo m HBO.out (by have := HI.out.2.1; have := hnd2.out; omega) BO.out HB.out).mono ?_; rintro e w5 ⟨rfl, ho, hb⟩; refine ⟨_, rfl, ?_⟩; clear BO HB hx1; have BO := Aside0.mk ho; have HB := Aside0.mk hb; clear ho hb)))
      go_roundg (gk - 1)
      case measure => have := HI.out; have := D1.out; omega
      case rel => exact ⟨i + 1, _, (by rw [← hw1.out]), ⟨by have := HI.out; have := D1.out; omega, by have h1 := acCcH_le (rd_T49 cs (i : Int)).f2 m; have := HI.out.2.1; have := hnd2.out; omega, by rw [← HI.out.2.2, hdr.out, acCcC_cons]⟩, BO, HB⟩
    · have d4 : decide ((i : Int) < (cs.length : Int)) = false := decide_eq_false (by omega)
      have d5 : ¬ ((i : Int) < (cs.length : Int)) := by omega
      have hz : Aside0 (acCcC cs (cs.length) = m) := ⟨by have h := HI.out.2.2; rw [List.drop_of_length_le (by omega)] at h; exact h.symm⟩
      have hbx : wr.cell? ⟨bo, 0, none⟩ = some (.int .i64 ((m : Nat) : Int)) := (blk_cell BO.out 0).trans rfl
      have hwz : Aside0 (wrap64 ((m : Int) + 1) = ((m + 1 : Nat) : Int)) := ⟨by have := HI.out.2.1; unfold wrap64; omega⟩
      clear d1 hx1
      go_wp2
      go_ret
      exact ⟨by unfold qvCc; rw [hz.out]; first | done | rfl, below_step HB1.out HB.out⟩
theorem allCc_go : ∀ x : S47, SmHead x → ndCcH x ≤ 1099511627776 → GoCcH x := by
  refine indHeadI fun x ih ihq hs hn => ?_
  have he := ndCcH_eq x
  refine nestCc_go x hs (fun y hy => ih y hy (hs.p3.2 y hy) ?_) (querCc_go x.f4.f0 hs.p4.1 (by omega) (fun y hy => ihq y hy (hs.p4.2 y hy).2.2 ?_))
  · have := ndCcP_mem hy; omega
  · have := ndCcC_mem hy; omega
theorem topCc_go (cs : List S49) (hs : SmQuery ⟨cs⟩) (hn : 1 + cs.length + ndCcC cs ≤ 1099511627776) : GoCcQ cs := querCc_go cs hs.1 hn (fun y hy => allCc_go y.f2 (hs.2 y hy).2.2 (by have := ndCcC_mem hy; omega))
end Go.Proofs.Ytpkppeicceehcaa.Px
end
