/- The law FnTypes: the walk, and what its functions come to. No condition. -/
import Derived.Test.YtaakdfbfgabdbaaZTypesExtM
import Derived.Test.YtaakdfbfgabdbaaZTypesPt6M
import Derived.Test.YtaakdfbfgabdbaaZTypesPt10M
import Derived.Test.YtaakdfbfgabdbaaZTypesPtDrawT3M
import Derived.Test.YtaakdfbfgabdbaaZTypesPt19M
import Derived.Test.YtaakdfbfgabdbaaZTypesPtTForm2M
import Derived.Test.YtaakdfbfgabdbaaZTypesPt15M
import Derived.Test.YtaakdfbfgabdbaaZTypesPtWFnTypes
import Derived.Test.YtaakdfbfgabdbaaZTypesWWords
import Derived.Deep.Slices
import Derived.ChangeArms
import Derived.DataReads
section
namespace Go.Proofs.Ytaakdfbfgabdbaa.Pt
open Go.RowKit Go.Proofs.YtaakdfbfgabdbaaW.PrintWords Go.Proofs.YtaakdfbfgabdbaaW.PrintLast Go.Proofs.Ytaakdfbfgabdbaa.Pl Go.Proofs.Ytaakdfbfgabdbaa.Ext
set_option linter.unusedVariables false
set_option linter.unusedSimpArgs false
theorem ex_ {α : Type} {g : Nat → Option α} {r : α} (h : Ev g r) : ∃ k, g k = some r := let ⟨K, h⟩ := h; ⟨K, h K (Nat.le_refl K)⟩
theorem take_next {α β : Type} (xs : List α) (d : α) (i : Int) (h0 : 0 ≤ i) (h1 : i < (xs.length : Int)) : xs.take (wrap64 (i + 1)).toNat = xs.take i.toNat ++ [xs.getD i.toNat d] ∨ ¬ xs.length ≤ 1048576 := by
  by_cases hl : xs.length ≤ 1048576
  · refine .inl ?_
    rw [w64 (a := i + 1) (by omega) (by omega), show (i + 1).toNat = i.toNat + 1 by omega, List.take_succ_eq_append_getElem (by omega)]
    simp [List.getD_eq_getElem?_getD, List.getElem?_eq_getElem (show i.toNat < xs.length by omega)]
  · exact .inr hl
theorem depTS_snoc (xs : List S27) (y : S27) : depTS (xs ++ [y]) = max (depTS xs) (depT y) := by
  induction xs with
  | nil => simp [depTS]
  | cons x r ih => simp [depTS, ih, Nat.max_assoc]
theorem sum_take (f : S27 → Nat) (xs : List S27) (n : Nat) : ((xs.take n).map f).sum ≤ (xs.map f).sum := by
  induction xs generalizing n with
  | nil => simp
  | cons x r ih => cases n with
    | zero => simp
    | succ n => have := ih n; simp only [List.take_succ_cons, List.map_cons, List.sum_cons]; omega
theorem FnTypes_told (l0 : List Int) (W : World) {A : Option Addr} {c : Nat} (hr : Kd.C (Kd.int .u8) W A l0.length l0) (hc : l0.length ≤ c) :
    Calls Try.prog 3 #[.slice A l0.length c] W fun e w' => e = .returned (.bool true) ∧ Below W.heap.size W w' := by
  by_cases hb : l0.length ≤ 1048576
  · obtain ⟨t, ht, htS, htn⟩ := DrawIsValidType_ev l0 hb
    obtain ⟨r, hr_, hrS, hrn⟩ := DrawIsRow_ev l0 hb
    obtain ⟨x, lb, hx, hxS, hxn⟩ := DrawFieldType_ev l0 hb
    obtain ⟨a, b, hab, ⟨haS, han⟩, hbS, hbn⟩ := DrawEqualType_ev l0 hb
    obtain ⟨f, ok, hf1, hf2, hfS⟩ := FieldType_same x hxS (by omega) lb
    obtain ⟨vE, hE1, hE2⟩ := EqualType_same a haS (by omega) b hbS (by omega)
    have hlen : t.f2.length ≤ 1048576 := htS.p2.1
    have hnd := ndType_eq t
    have hsub : ∀ n, ((t.f2.take n).map ndType).sum ≤ 40 := fun n => by have := sum_take ndType t.f2 n; omega
    have hsubB : ∀ n, ((t.f2.take n).map bgT).sum ≤ 40 := fun n => by have := sum_take bgT t.f2 n; have := bgT_le t; have := bgT_eq t; omega
    have hdp : ∀ n, depTS (t.f2.take n) ≤ 40 := fun n => (depT_le _ _).2 fun y hy => Nat.le_trans (depT_nd y) (Nat.le_trans (sum_le_of_mem ndType hy) (hsub n))
    have hel : ∀ i : Int, 0 ≤ i → i < (t.f2.length : Int) → SmType (t.f2.getD i.toNat z27) ∧ ndType (t.f2.getD i.toNat z27) ≤ 40 := fun i h0 h1 => by
      have hm := mem_getD t.f2 z27 i.toNat (by omega)
      exact ⟨htS.p2.2 _ hm, by have := sum_le_of_mem ndType hm; omega⟩
    have hnx : ∀ i : Int, 0 ≤ i → i < (t.f2.length : Int) → t.f2.take (wrap64 (i + 1)).toNat = t.f2.take i.toNat ++ [t.f2.getD i.toNat z27] := fun i h0 h1 => by
      rcases take_next (β := Nat) t.f2 z27 i h0 h1 with h | h
      · exact h
      · exact absurd hlen h
    refine FnTypes_walk l0 (t0 := t.f0) (t1 := t.f1) (t2 := t.f2) (r0 := r.f0) (r1 := r.f1) (r2 := r.f2) (x0 := x.f0) (x1 := x.f1) (x2 := x.f2) (lb := lb) (f0 := f.f0) (f1 := f.f1) (f2 := f.f2) (g0 := f.f0) (g1 := f.f1) (g2 := f.f2) (ok := ok) (a0 := a.f0) (a1 := a.f1) (a2 := a.f2) (b0 := b.f0) (b1 := b.f1) (b2 := b.f2)
      (vV := vT t) (vD := vD t) (vE := vE) (vR := vR r)
      (sm := fun i => ((1 + ((t.f2.take i.toNat).map ndType).sum : Nat) : Int)) (sz := fun i => (ndType (rd_T27 t.f2 i) : Int))
      (bg := fun i => (((if t.f0 = 4 then 1 else 0) + ((t.f2.take i.toNat).map bgT).sum : Nat) : Int)) (bz := fun i => (bgT (rd_T27 t.f2 i) : Int))
      (dp := fun i => (depTS (t.f2.take i.toNat) : Int)) (dz := fun i => (depT (rd_T27 t.f2 i) : Int))
      (hb0t := fun h => by simp [h]) (hb0f := fun h => by simp [h]) (hsm0 := ⟨by simp⟩) (hdp0 := ⟨by simp [depTS]⟩)
      (hw := ⟨fun i h0 h1 => w64 (by omega) (by omega)⟩)
      (hsm := ⟨fun i h0 h1 => ?_⟩) (hbg := ⟨fun i h0 h1 => ?_⟩) (hdp := ⟨fun i h0 h1 => ?_⟩)
      (hS := fun i h0 h1 => (ex_ (impl_SizeOfType_ev _ (hel i h0 h1).1 (Nat.le_trans (hel i h0 h1).2 (by decide)))))
      (hG := fun i h0 h1 => (ex_ (impl_CountBags_ev _ (hel i h0 h1).1 (Nat.le_trans (hel i h0 h1).2 (by decide)))))
      (hD := fun i h0 h1 => ?_)
      (hR1 := (ex_ (impl_IsRow_ev r hrS (by omega)))) (hR2 := (ex_ (spec_IsRow_ev r hrS (by omega))))
      (hcb := fun h => ?_) (hda := fun h => ?_)
      (p0 := ⟨by simp [laws_big.f]; omega⟩) (p1 := (ex_ ht)) (p2 := ?_) (p3 := ?_) (p4 := ?_)
      (p5 := (ex_ (impl_IsValidType_ev t htS (by omega)))) (p6 := (ex_ (spec_IsValidType_ev t htS (by omega)))) (p7 := (ex_ (impl_IsData_ev t htS (by omega)))) (p8 := (ex_ (spec_IsData_ev t htS (by omega))))
      (p9 := (ex_ hr_)) (p10 := (ex_ hx)) (p11 := (ex_ hf2)) (p12 := (ex_ hf1)) (p13 := (ex_ hab)) (p14 := (ex_ (EqualType_self f hfS))) (p15 := (ex_ hE2)) (p16 := (ex_ hE1)) W hr hc
    · have h2 := hsub i.toNat
      have h3 := (hel i h0 h1).2
      show (((1 + ((t.f2.take (wrap64 (i + 1)).toNat).map ndType).sum : Nat) : Int)) = wrap64 (((1 + ((t.f2.take i.toNat).map ndType).sum : Nat) : Int) + (ndType (t.f2.getD i.toNat z27) : Int))
      rw [hnx i h0 h1, w64 (by omega) (by omega)]
      simp only [List.map_append, List.sum_append, List.map_cons, List.map_nil, List.sum_cons, List.sum_nil]
      omega
    · have h2 := hsubB i.toNat
      have h3 := (hel i h0 h1).2
      have h4 := bgT_le (t.f2.getD i.toNat z27)
      show ((((if t.f0 = 4 then 1 else 0) + ((t.f2.take (wrap64 (i + 1)).toNat).map bgT).sum : Nat) : Int)) = wrap64 ((((if t.f0 = 4 then 1 else 0) + ((t.f2.take i.toNat).map bgT).sum : Nat) : Int) + (bgT (t.f2.getD i.toNat z27) : Int))
      rw [hnx i h0 h1, w64 (by split <;> omega) (by split <;> omega)]
      simp only [List.map_append, List.sum_append, List.map_cons, List.map_nil, List.sum_cons, List.sum_nil]
      omega
    · show (depTS (t.f2.take (wrap64 (i + 1)).toNat) : Int) = if (depT (t.f2.getD i.toNat z27) : Int) > (depTS (t.f2.take i.toNat) : Int) then (depT (t.f2.getD i.toNat z27) : Int) else (depTS (t.f2.take i.toNat) : Int)
      rw [hnx i h0 h1, depTS_snoc]
      split <;> omega
    · obtain ⟨v, h1', h2'⟩ := DepthOfType_same (t.f2.getD i.toNat z27) (hel i h0 h1).1 (Nat.le_trans (hel i h0 h1).2 (by decide))
      have h3' := spec_DepthOfType_ev (t.f2.getD i.toNat z27) (hel i h0 h1).1 (Nat.le_trans (hel i h0 h1).2 (by decide))
      obtain ⟨K1, e1⟩ := h1'
      obtain ⟨K2, e2⟩ := h3'
      have := (e1 (max K1 K2) (Nat.le_max_left ..)).symm.trans (e2 (max K1 K2) (Nat.le_max_right ..))
      obtain rfl := Option.some.inj this
      exact (ex_ h2')
    · have := (vR_row r h).1
      have h2 := (ex_ (impl_CountBags_ev r hrS (by omega)))
      rw [this] at h2
      exact h2
    · have := (vR_row r h).2
      have h2 := (ex_ (impl_IsData_ev r hrS (by omega)))
      rw [this] at h2
      exact h2
    · have h2 := (ex_ (impl_SizeOfType_ev t htS (by omega)))
      rw [hnd] at h2
      simpa using h2
    · obtain ⟨v, h1', h2'⟩ := DepthOfType_same t htS (by omega)
      have h3' := spec_DepthOfType_ev t htS (by omega)
      obtain ⟨K1, e1⟩ := h1'
      obtain ⟨K2, e2⟩ := h3'
      have := (e1 (max K1 K2) (Nat.le_max_left ..)).symm.trans (e2 (max K1 K2) (Nat.le_max_right ..))
      obtain rfl := Option.some.inj this
      have h2 := (ex_ h2')
      rw [depT_eq] at h2
      have h5 := hdp t.f2.length
      rw [List.take_length] at h5
      have h6 : wrap64 ((depTS t.f2 : Int) + 1) = ((depTS t.f2 + 1 : Nat) : Int) := by rw [w64 (by omega) (by omega)]; omega
      simp only [Int.toNat_natCast, List.take_length, h6]
      exact h2
    · have h2 := (ex_ (impl_CountBags_ev t htS (by omega)))
      rw [bgT_eq] at h2
      simpa using h2
  · exact FnTypes_stop l0 (p0 := ⟨by simp [laws_big.f]; omega⟩) W hr hc

end Go.Proofs.Ytaakdfbfgabdbaa.Pt
end
section
namespace Go.Proofs.Ytaakdfbfgabdbaa.Rd
open Go.RowKit Go.Proofs.YtaakdfbfgabdbaaW.PrintWords
set_option linter.unusedVariables false
/-- What reads as_ data of type t, by at most n steps, is of kind d and meets q. -/
def Op (P : Program) (n : Nat) (t : TypeId) {α : Type} (d : Kd α) (q : α → Prop) : Prop :=
  ∀ (H : Type) (enc : TypeId × Value → H) (w : World) (base : Nat) (spare : Nat → Bool) (held : Bool) (fuel : Nat) (cs : List Value) (x : DataW H × List MemPlace),
    fuel ≤ n → DataW.trod enc P w base spare held fuel t cs = some x → ∃ y, d.K w y cs ∧ q y
theorem Op.imp {P : Program} {n : Nat} {t : TypeId} {α : Type} {d d' : Kd α} {q q' : α → Prop} (h1 : ∀ w y cs, d.K w y cs → d'.K w y cs) (h2 : ∀ y, q y → q' y) (h : Op P n t d q) : Op P n t d' q' := by
  intro H enc w base spare held fuel cs x hf hx
  obtain ⟨y, hy, hq⟩ := h H enc w base spare held fuel cs x hf hx
  exact ⟨y, h1 _ _ _ hy, h2 _ hq⟩
theorem Op.iso {P : Program} {n : Nat} {t : TypeId} {α β : Type} {d : Kd α} {q : α → Prop} {f : β → α} (g : α → β) (hg : ∀ y, f (g y) = y) (h : Op P n t d q) : Op P n t (Kd.iso d f) (fun x => q (f x)) := by
  intro H enc w base spare held fuel cs x hf hx
  obtain ⟨y, hy, hq⟩ := h H enc w base spare held fuel cs x hf hx
  refine ⟨g y, ?_, ?_⟩
  · show d.K w (f (g y)) cs
    rw [hg]; exact hy
  · show q (f (g y))
    rw [hg]; exact hq
theorem Op.int {P : Program} {n : Nat} {t : TypeId} {k : IntKind} (ht : P.underlying t = some (.int k)) : Op P n t (Kd.int k) (fun x => (Lit.int k x).wf = true) := by
  intro H enc w base spare held fuel cs x hf hx
  obtain ⟨m, rfl, rfl, hw⟩ := DataW.trod_int ht hx
  exact ⟨m, rfl, hw⟩
theorem Op.bool {P : Program} {n : Nat} {t : TypeId} (ht : P.underlying t = some .bool) : Op P n t Kd.bool (fun _ => True) := by
  intro H enc w base spare held fuel cs x hf hx
  obtain ⟨m, rfl, rfl⟩ := DataW.trod_bool ht hx
  exact ⟨m, rfl, trivial⟩
theorem trod_string' {H : Type} {enc : TypeId × Value → H} {P : Program} {w : World} {base : Nat} {spare : Nat → Bool} {held : Bool} {fuel : Nat} {t : TypeId} {cs : List Value} {x : DataW H × List MemPlace}
    (ht : P.underlying t = some .string) (h : DataW.trod enc P w base spare held fuel t cs = some x) : ∃ s, cs = [.string s] ∧ s.size ≤ maxLen := by
  cases fuel with
  | zero => simp [DataW.trod] at h
  | succ n =>
    unfold DataW.trod at h
    rw [ht] at h
    split at h <;> simp_all
theorem Op.string {P : Program} {n : Nat} {t : TypeId} (ht : P.underlying t = some .string) : Op P n t Kd.string (fun s => s.size ≤ maxLen) := by
  intro H enc w base spare held fuel cs x hf hx
  obtain ⟨m, rfl, hm⟩ := trod_string' ht hx
  exact ⟨m, rfl, hm⟩
theorem add_add (a : Addr) (i j : Nat) : (a.add i).add j = a.add (i + j) := by
  unfold Addr.add
  by_cases h1 : i = 0 <;> by_cases h2 : j = 0 <;> simp [h1, h2, Nat.add_assoc]
theorem choose_list {α : Type} {p : Nat → α → Prop} (n : Nat) (h : ∀ i, i < n → ∃ y, p i y) : ∃ ys : List α, ys.length = n ∧ ∀ i y, ys[i]? = some y → p i y := by
  induction n with
  | zero => exact ⟨[], rfl, fun i y hy => by simp at hy⟩
  | succ n ih =>
    obtain ⟨ys, hl, hy⟩ := ih (fun i hi => h i (by omega))
    obtain ⟨z, hz⟩ := h n (by omega)
    refine ⟨ys ++ [z], by simp [hl], fun i y hi => ?_⟩
    by_cases hlt : i < n
    · rw [List.getElem?_append_left (by omega)] at hi
      exact hy i y hi
    · by_cases he : i = n
      · subst he
        rw [List.getElem?_append_right (by omega)] at hi
        simp [hl] at hi
        subst hi
        exact hz
      · rw [List.getElem?_eq_none (by simp; omega)] at hi
        cases hi
theorem Op.slice {P : Program} {n : Nat} {t e : TypeId} {α : Type} {d : Kd α} {q : α → Prop} (ht : P.underlying t = some (.slice e)) (hsz : P.cellsOf e = d.sz) (h : ∀ k, k < n → Op P k e d q) :
    Op P n t (Kd.slice e d) (fun xs => xs.length ≤ maxLen ∧ ∀ y ∈ xs, q y) := by
  intro H enc w base spare held fuel cs x hf hx
  rcases DataW.trod_slice ht hx with ⟨rfl, _⟩ | ⟨a, len, cap, elems, rest, m, hm, rfl, _, hb, hl, hc, hlen, hel, _, _⟩
  · exact ⟨[], ⟨none, 0, rfl, Nat.le_refl _, ⟨rfl, by simp, fun hp => absurd hp (by simp)⟩⟩, by simp, fun y hy => by simp at hy⟩
  · have hone : ∀ i, i < len → ∃ y, (∃ c, c.length = d.sz ∧ d.K w y c ∧ ∀ j u, c[j]? = some u → w.cell? (a.add (i * d.sz + j)) = some u) ∧ q y := by
      intro i hi
      have h1 := hel i hi
      rw [List.getElem?_eq_getElem (by omega)] at h1
      obtain ⟨c, hc1, hc2⟩ := Option.bind_eq_some_iff.1 h1
      obtain ⟨y, hy, hq⟩ := h m (by omega) H enc w base spare held m c _ (Nat.le_refl _) hc2
      obtain ⟨_, hcl, hcells⟩ := World.cells?_some hc1
      refine ⟨y, ⟨c, by omega, hy, fun j u hu => ?_⟩, hq⟩
      have hj : j < P.cellsOf e := by
        rw [← hcl]
        exact (List.getElem?_eq_some_iff.1 hu).1
      have := hcells j hj
      rw [add_add, hsz] at this
      rw [this, hu]
    obtain ⟨ys, hyl, hys⟩ := choose_list len hone
    have hmx : len ≤ 9223372036854775807 := by
      have : cap ≤ 9223372036854775807 := hc
      omega
    refine ⟨ys, ⟨some a, cap, by rw [hyl], by omega, ⟨rfl, by omega, fun _ => ⟨a, rfl, fun j p hj => (hys j p hj).1⟩⟩⟩, by rw [hyl]; exact hmx, fun y hy => ?_⟩
    obtain ⟨i, hi, rfl⟩ := List.getElem_of_mem hy
    exact (hys i _ (List.getElem?_eq_getElem hi)).2
/-- Fields, from an offset on. -/
def OpF (P : Program) (n : Nat) (fs : List Field) (off : Nat) {α : Type} (d : Kd α) (q : α → Prop) : Prop :=
  ∀ (H : Type) (enc : TypeId × Value → H) (w : World) (base : Nat) (spare : Nat → Bool) (held : Bool) (fuel : Nat) (cs : List Value), fuel ≤ n →
    (∀ f ∈ fs, ∃ x, DataW.trod enc P w base spare held fuel f.type ((cs.drop f.offset).take (P.cellsOf f.type)) = some x) → cs.length = off + d.sz → ∃ y, d.K w y (cs.drop off) ∧ q y
theorem OpF.one {P : Program} {n : Nat} {f : Field} {off : Nat} {α : Type} {d : Kd α} {q : α → Prop} (ho : f.offset = off) (hsz : P.cellsOf f.type = d.sz) (h : Op P n f.type d q) : OpF P n [f] off d q := by
  intro H enc w base spare held fuel cs hf hx hl
  obtain ⟨x, hx⟩ := hx f (List.mem_singleton.2 rfl)
  rw [ho, hsz, List.take_of_length_le (by rw [List.length_drop]; omega)] at hx
  exact h H enc w base spare held fuel _ x hf hx
theorem OpF.cons {P : Program} {n : Nat} {f : Field} {fs : List Field} {off : Nat} {α β : Type} {a : Kd α} {b : Kd β} {qa : α → Prop} {qb : β → Prop} (ho : f.offset = off) (hsz : P.cellsOf f.type = a.sz) (h : Op P n f.type a qa) (hr : OpF P n fs (off + a.sz) b qb) :
    OpF P n (f :: fs) off (Kd.pair a b) (fun y => qa y.1 ∧ qb y.2) := by
  intro H enc w base spare held fuel cs hf hx hl
  have hl' : cs.length = off + (a.sz + b.sz) := hl
  obtain ⟨x, h1⟩ := hx f (List.mem_cons_self ..)
  rw [ho, hsz] at h1
  obtain ⟨y, hy, hq⟩ := h H enc w base spare held fuel _ x hf h1
  obtain ⟨z, hz, hq2⟩ := hr H enc w base spare held fuel cs hf (fun g hg => hx g (List.mem_cons_of_mem _ hg)) (by omega)
  refine ⟨(y, z), ⟨_, _, ?_, hy, hz⟩, hq, hq2⟩
  rw [← List.drop_drop, List.take_append_drop]
theorem Op.struct {P : Program} {n : Nat} {t : TypeId} {fs : Array Field} {α : Type} {d : Kd α} {q : α → Prop} (ht : P.underlying t = some (.struct fs)) (hsz : P.cellsOf t = d.sz) (h : ∀ k, k < n → OpF P k fs.toList 0 d q) : Op P n t d q := by
  intro H enc w base spare held fuel cs x hf hx
  obtain ⟨xs, m, hm, _, hl, hxl, hfs⟩ := DataW.trod_struct ht hx
  have hr := h m (by omega) H enc w base spare held m cs (Nat.le_refl _) (fun f hfm => ?_) (by omega)
  · simpa using hr
  · obtain ⟨i, hi, rfl⟩ := List.getElem_of_mem hfm
    have hi' : i < fs.size := by simpa using hi
    have h2 := hfs i _ (Array.getElem?_eq_getElem hi')
    rw [List.getElem?_eq_getElem (by omega)] at h2
    exact ⟨_, by simpa using h2⟩
/-- The same at whatever fuel. -/
theorem Op.open_ {P : Program} {t : TypeId} {α : Type} {d : Kd α} {q : α → Prop} (h : ∀ n, Op P n t d q) {H : Type} {enc : TypeId × Value → H} {w : World} {base : Nat} {spare : Nat → Bool} {held : Bool} {v : Value} {x : DataW H} {ps : List MemPlace}
    (ht : DataW.Trod enc P w base spare held t v x ps) : ∃ y, d.K w y v.cells.toList ∧ q y := by
  obtain ⟨fuel, hf⟩ := ht
  exact h fuel H enc w base spare held fuel _ _ (Nat.le_refl _) hf
end Go.Proofs.Ytaakdfbfgabdbaa.Rd
end
