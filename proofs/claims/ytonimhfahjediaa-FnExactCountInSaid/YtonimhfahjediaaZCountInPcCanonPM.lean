/- CanonValue, SameBag, CountIn: what the program's and the reference's functions come to. No condition beyond the sizes named. -/
import Derived.Test.YtonimhfahjediaaZCountInWLastM
import Derived.Test.YtonimhfahjediaaZCountInPc11
import Derived.Test.YtonimhfahjediaaZCountInPc3M
import Derived.Test.YtonimhfahjediaaZCountInPc7M
import Derived.Test.YtonimhfahjediaaZCountInPc6M
import Derived.Test.YtonimhfahjediaaZCountInPcFValueM
import Derived.Test.YtonimhfahjediaaZCountInPcSortSM
import Derived.Test.YtonimhfahjediaaZCountInPc12
import Derived.Test.YtonimhfahjediaaZCountInWWords
import Derived.Deep.Slices
import Derived.ChangeArms
import Derived.DataReads
section
namespace Go.Proofs.Ytonimhfahjediaa.Pc
open Go.RowKit Go.Proofs.YtonimhfahjediaaW.PrintWords Go.Proofs.YtonimhfahjediaaW.PrintLast Go.Proofs.Ytonimhfahjediaa.Pl Go.Proofs.Ytonimhfahjediaa.Ext
set_option linter.unusedVariables false
set_option linter.unusedSimpArgs false
theorem srt_can (xs : List S30) (hs : ∀ x ∈ xs, SmValue x) (hl : xs.length ≤ 1048576) : srt (xs.map canT) = some (St.stable ltT z30 (xs.map canT)) :=
  srt_eq (fun y hy => by obtain ⟨u, hu, rfl⟩ := List.mem_map.1 hy; exact sm_canT u (hs u hu)) (by rw [List.length_map]; exact hl)
theorem can_take {xs : List S30} {i : Nat} (h : i < xs.length) : (xs.take i).map canT ++ [(⟨(canT (xs.getD i z30)).f0, (canT (xs.getD i z30)).f1, (canT (xs.getD i z30)).f2, (canT (xs.getD i z30)).f3⟩ : S30)] = (xs.take (i + 1)).map canT := by
  rw [etaValue, List.take_succ_eq_append_getElem h, List.map_append]
  simp [List.getD_eq_getElem?_getD, h]
theorem can_bag {x : S30} (h : x.f0 = 4) : ((x.f0, x.f1, x.f2, St.stable ltT z30 (x.f3.map canT)) : Int × Int × List ByteArray × List S30) = ((canT x).f0, (canT x).f1, (canT x).f2, (canT x).f3) := by
  rw [canT_eq, if_pos h]
theorem can_else {x : S30} (h : ¬ x.f0 = 4) : ((x.f0, x.f1, x.f2, x.f3.map canT) : Int × Int × List ByteArray × List S30) = ((canT x).f0, (canT x).f1, (canT x).f2, (canT x).f3) := by
  rw [canT_eq, if_neg h]
theorem specCanon_ev : ∀ x : S30, SmValue x → Ev (fun k => spec_CanonValue.f k x.f0 x.f1 x.f2 x.f3) ((canT x).f0, (canT x).f1, (canT x).f2, (canT x).f3) := by
  refine indValueI fun x ih hs => ?_
  have lp : ∀ d i : Nat, d = x.f3.length - i → i ≤ x.f3.length → Ev (fun k => spec_CanonValue.l0 k (i : Int) x.f0 x.f1 x.f2 x.f3 x.f0 x.f1 x.f2 ((x.f3.take i).map canT)) ((canT x).f0, (canT x).f1, (canT x).f2, (canT x).f3) := by
    intro d
    induction d with
    | zero =>
      intro i hd hi
      rw [List.take_of_length_le (by omega : x.f3.length ≤ i)]
      refine Ev.up ?_
      simp only [spec_CanonValue.l0]
      refine Ev.neg (by omega) ?_
      by_cases h : x.f0 = 4
      · refine Ev.pos h (Ev.fix (srt_can x.f3 hs.p3.2 hs.p3.1) (Ev.const (can_bag h)))
      · exact Ev.neg h (Ev.const (can_else h))
    | succ d ihd =>
      intro i hd hi
      have hlt : i < x.f3.length := by omega
      refine Ev.up ?_
      simp only [spec_CanonValue.l0, w1' hlt hs.p3.1]
      refine Ev.pos (by omega) (Ev.pos (by omega) (Ev.bind (ih (x.f3.getD i z30) (mem_getD x.f3 z30 i hlt) (hs.p3.2 _ (mem_getD x.f3 z30 i hlt))) (Ev.pos (by have := hs.p3.1; rw [List.length_map, List.length_take]; omega) ?_)))
      have := ihd (i + 1) (by omega) (by omega)
      rw [← can_take hlt] at this
      exact this
  refine Ev.up ?_
  simp only [spec_CanonValue.f, Option.bind_some, List.nil_append, List.length_nil]
  refine Ev.pos (by have := hs.p2.1; omega) ?_
  exact lp (x.f3.length - 0) 0 rfl (by omega)
theorem implCanon_ev : ∀ x : S30, SmValue x → Ev (fun k => impl_CanonValue.f k x.f0 x.f1 x.f2 x.f3) ((canT x).f0, (canT x).f1, (canT x).f2, (canT x).f3) := by
  refine indValueI fun x ih hs => ?_
  have hcl : slices_Clone_string_string.f x.f2 = some x.f2 := by
    unfold slices_Clone_string_string.f
    rw [if_pos (by have := hs.p2.1; omega)]
  have lp : ∀ d i : Nat, d = x.f3.length - i → i ≤ x.f3.length → Ev (fun k => impl_CanonValue.l0 k x.f3 (x.f3.length : Int) (i : Int) x.f0 x.f1 x.f2 x.f3 x.f0 x.f1 x.f2 ((x.f3.take i).map canT)) ((canT x).f0, (canT x).f1, (canT x).f2, (canT x).f3) := by
    intro d
    induction d with
    | zero =>
      intro i hd hi
      rw [List.take_of_length_le (by omega : x.f3.length ≤ i)]
      refine Ev.up ?_
      simp only [impl_CanonValue.l0]
      refine Ev.neg (by omega) ?_
      by_cases h : x.f0 = 4
      · refine Ev.pos h (Ev.fix (srt_can x.f3 hs.p3.2 hs.p3.1) (Ev.const (can_bag h)))
      · exact Ev.neg h (Ev.const (can_else h))
    | succ d ihd =>
      intro i hd hi
      have hlt : i < x.f3.length := by omega
      refine Ev.up ?_
      simp only [impl_CanonValue.l0, w1' hlt hs.p3.1]
      refine Ev.pos (by omega) (Ev.pos (by omega) (Ev.pos (by omega) (Ev.bind (ih (x.f3.getD i z30) (mem_getD x.f3 z30 i hlt) (hs.p3.2 _ (mem_getD x.f3 z30 i hlt))) (Ev.pos (by have := hs.p3.1; rw [List.length_map, List.length_take]; omega) ?_))))
      have := ihd (i + 1) (by omega) (by omega)
      rw [← can_take hlt] at this
      exact this
  refine Ev.up ?_
  simp only [impl_CanonValue.f, hcl, Option.bind_some]
  exact lp (x.f3.length - 0) 0 rfl (by omega)
theorem specSame_ev (x y : S30) (hx : SmValue x) (hy : SmValue y) : Ev (fun k => spec_SameBag.f k x.f0 x.f1 x.f2 x.f3 y.f0 y.f1 y.f2 y.f3) (sameT x y) := by
  simp only [spec_SameBag.f]
  refine Ev.bind (specCanon_ev x hx) (Ev.bind (specCanon_ev y hy) (Ev.bind (specCmp_ev (canT x) (canT y) (sm_canT x hx) (sm_canT y hy)) (Ev.const ?_)))
  rfl
theorem implSame_ev (x y : S30) (hx : SmValue x) (hy : SmValue y) : Ev (fun k => impl_SameBag.f k x.f0 x.f1 x.f2 x.f3 y.f0 y.f1 y.f2 y.f3) (sameT x y) := by
  simp only [impl_SameBag.f]
  refine Ev.bind (implCanon_ev x hx) (Ev.bind (implCanon_ev y hy) (Ev.bind (CompareValues_ev (canT x) (canT y) (sm_canT x hx) (sm_canT y hy)) (Ev.const ?_)))
  rfl
def cntT (y : S30) : List S30 → Nat
  | [] => 0
  | z :: r => (if sameT z y = true then 1 else 0) + cntT y r
theorem drop_getD {xs : List S30} {i : Nat} (h : i < xs.length) : xs.drop i = xs.getD i z30 :: xs.drop (i + 1) := by
  rw [List.drop_eq_getElem_cons h]
  congr 1
  simp [List.getD_eq_getElem?_getD, h]
theorem cnt_step {y : S30} {xs : List S30} {i : Nat} (h : i < xs.length) : cntT y (xs.drop i) = (if sameT (xs.getD i z30) y = true then 1 else 0) + cntT y (xs.drop (i + 1)) := by
  rw [drop_getD h, cntT]
theorem specCount_ev (x y : S30) (hx : SmValue x) (hy : SmValue y) : Ev (fun k => spec_CountIn.f k x.f0 x.f1 x.f2 x.f3 y.f0 y.f1 y.f2 y.f3) (if x.f0 = 4 then (cntT y x.f3 : Int) else 0) := by
  simp only [spec_CountIn.f]
  by_cases h4 : x.f0 = 4
  · rw [if_pos h4]
    have lp : ∀ d i : Nat, d = x.f3.length - i → i ≤ x.f3.length → ∀ a : Nat, a ≤ i → Ev (fun k => spec_CountIn.l0 k (a : Int) (i : Int) x.f0 x.f1 x.f2 x.f3 y.f0 y.f1 y.f2 y.f3) ((a + cntT y (x.f3.drop i) : Nat) : Int) := by
      intro d
      induction d with
      | zero =>
        intro i hd hi a ha
        refine Ev.up ?_
        simp only [spec_CountIn.l0]
        refine Ev.neg (by omega) (Ev.up ?_)
        simp only [spec_CountIn.j1]
        refine Ev.neg (by simp) (Ev.const ?_)
        rw [List.drop_of_length_le (by omega : x.f3.length ≤ i), cntT, Nat.add_zero]
      | succ d ihd =>
        intro i hd hi a ha
        have hlt : i < x.f3.length := by omega
        have hl := hx.p3.1
        refine Ev.up ?_
        simp only [spec_CountIn.l0]
        refine Ev.pos (by omega) (Ev.up ?_)
        simp only [spec_CountIn.j1, w1' hlt hx.p3.1, spec_l1Bit_eq, Option.bind_some]
        refine Ev.pos (by simp [h4]) (Ev.pos (by omega) (Ev.pos (by omega) (Ev.bind (specSame_ev (x.f3.getD i z30) y (hx.p3.2 _ (mem_getD x.f3 z30 i hlt)) hy) ?_)))
        rw [cnt_step hlt]
        by_cases hb : sameT (x.f3.getD i z30) y = true
        · rw [if_pos hb, if_pos hb, show wrap64 ((a : Int) + 1) = ((a + 1 : Nat) : Int) by unfold wrap64; omega, show a + (1 + cntT y (x.f3.drop (i + 1))) = (a + 1) + cntT y (x.f3.drop (i + 1)) by omega]
          exact ihd (i + 1) (by omega) (by omega) (a + 1) (by omega)
        · rw [if_neg hb, if_neg hb, show wrap64 ((a : Int) + 0) = ((a : Nat) : Int) by unfold wrap64; omega, Nat.zero_add]
          exact ihd (i + 1) (by omega) (by omega) a (by omega)
    have := lp (x.f3.length - 0) 0 rfl (by omega) 0 (Nat.le_refl _)
    rw [List.drop_zero, Nat.zero_add] at this
    exact this
  · rw [if_neg h4]
    refine Ev.up ?_
    simp only [spec_CountIn.l0]
    refine Ev.cases (fun h => Ev.up ?_) (fun h => Ev.up ?_)
    · simp only [spec_CountIn.j1]
      exact Ev.neg (by simp [h4]) (Ev.now _)
    · simp only [spec_CountIn.j1]
      exact Ev.neg (by simp) (Ev.now _)
theorem implCount_ev (x y : S30) (hx : SmValue x) (hy : SmValue y) : Ev (fun k => impl_CountIn.f k x.f0 x.f1 x.f2 x.f3 y.f0 y.f1 y.f2 y.f3) (if x.f0 = 4 then (cntT y x.f3 : Int) else 0) := by
  simp only [impl_CountIn.f]
  have lp : ∀ d i : Nat, d = x.f3.length - i → i ≤ x.f3.length → ∀ a : Nat, a ≤ i → Ev (fun k => impl_CountIn.l0 k (a : Int) x.f3 (x.f3.length : Int) (i : Int) x.f0 x.f1 x.f2 x.f3 y.f0 y.f1 y.f2 y.f3) (if x.f0 = 4 then ((a + cntT y (x.f3.drop i) : Nat) : Int) else (a : Int)) := by
    intro d
    induction d with
    | zero =>
      intro i hd hi a ha
      refine Ev.up ?_
      simp only [impl_CountIn.l0]
      refine Ev.neg (by omega) (Ev.const ?_)
      rw [List.drop_of_length_le (by omega : x.f3.length ≤ i), cntT, Nat.add_zero]
      split <;> rfl
    | succ d ihd =>
      intro i hd hi a ha
      have hlt : i < x.f3.length := by omega
      have hl := hx.p3.1
      refine Ev.up ?_
      simp only [impl_CountIn.l0, w1' hlt hx.p3.1]
      refine Ev.pos (by omega) (Ev.pos (by omega) (Ev.pos (by omega) ?_))
      by_cases h4 : x.f0 = 4
      · rw [if_pos h4, cnt_step hlt]
        refine Ev.pos h4 (Ev.bind (implSame_ev (x.f3.getD i z30) y (hx.p3.2 _ (mem_getD x.f3 z30 i hlt)) hy) ?_)
        by_cases hb : sameT (x.f3.getD i z30) y = true
        · rw [if_pos hb, show wrap64 ((a : Int) + 1) = ((a + 1 : Nat) : Int) by unfold wrap64; omega, show a + (1 + cntT y (x.f3.drop (i + 1))) = (a + 1) + cntT y (x.f3.drop (i + 1)) by omega]
          have := ihd (i + 1) (by omega) (by omega) (a + 1) (by omega)
          rw [if_pos h4] at this
          exact Ev.pos hb this
        · rw [if_neg hb, Nat.zero_add]
          have := ihd (i + 1) (by omega) (by omega) a (by omega)
          rw [if_pos h4] at this
          exact Ev.neg hb this
      · have := ihd (i + 1) (by omega) (by omega) a (by omega)
        rw [if_neg h4] at this ⊢
        exact Ev.neg h4 this
  have := lp (x.f3.length - 0) 0 rfl (by omega) 0 (Nat.le_refl _)
  rw [List.drop_zero, Nat.zero_add] at this
  exact this
theorem CountIn_same (x : S30) (hx : SmValue x) (hn : ndValue x ≤ 1048577) (y : S30) (hy : SmValue y) (hm : ndValue y ≤ 1048577) : Same (fun k => spec_CountIn.f k x.f0 x.f1 x.f2 x.f3 y.f0 y.f1 y.f2 y.f3) (fun k => impl_CountIn.f k x.f0 x.f1 x.f2 x.f3 y.f0 y.f1 y.f2 y.f3) := ⟨_, specCount_ev x y hx hy, implCount_ev x y hx hy⟩

end Go.Proofs.Ytonimhfahjediaa.Pc
end
section
namespace Go.Proofs.Ytonimhfahjediaa.Pure
open Go.RowKit Go.Proofs.Ytonimhfahjediaa.Pc Go.Proofs.YtonimhfahjediaaW.PrintWords Go.Proofs.YtonimhfahjediaaW.PrintLast Go.Proofs.Ytonimhfahjediaa.Pl
set_option linter.unusedVariables false
set_option linter.unusedSimpArgs false
theorem FnExactCountIn_all (x0 : S25) (hW0 : W25 x0) (x1 : S25) (hW1 : W25 x1) : Ev (fun k => laws_FnExactCountIn.f k x0.f0 x0.f1 x0.f2 x0.f3 x1.f0 x1.f1 x1.f2 x1.f3) true := by
  simp only [laws_FnExactCountIn.f]
  have hb0 : (0 : Int) ≤ (1048576 : Int) ∧ (1048576 : Int) ≤ 1048576 := ⟨by omega, by omega⟩
  refine Ev.bind (szValue_ev x0 hW0 _ hb0.1 hb0.2) ?_
  by_cases hc0 : cut (wtValue x0) (1048576 : Int) < 0
  · exact Ev.pos hc0 (Ev.now _)
  refine Ev.neg hc0 ?_
  have hw0 : (wtValue x0 : Nat) ≤ 1048576 := by
    have := (not_congr (cut_neg (n := wtValue x0))).1 hc0
    have h2 := hb0
    omega
  have hb1 : (0 : Int) ≤ (cut (wtValue x0) (1048576 : Int)) ∧ (cut (wtValue x0) (1048576 : Int)) ≤ 1048576 := ⟨by omega, by have := cut_le (n := wtValue x0) hb0.1; omega⟩
  refine Ev.bind (szValue_ev x1 hW1 _ hb1.1 hb1.2) ?_
  by_cases hc1 : cut (wtValue x1) (cut (wtValue x0) (1048576 : Int)) < 0
  · exact Ev.pos hc1 (Ev.now _)
  refine Ev.neg hc1 ?_
  have hw1 : (wtValue x1 : Nat) ≤ 1048576 := by
    have := (not_congr (cut_neg (n := wtValue x1))).1 hc1
    have h2 := hb1
    omega
  obtain ⟨r, h1, h2⟩ := CountIn_same (cvValue x0) (smValue_of x0 hW0 hw0) (by have := ndValue_cv x0; omega) (cvValue x1) (smValue_of x1 hW1 hw1) (by have := ndValue_cv x1; omega)
  refine Ev.bind (toValue_ev x0 hw0) ?_
  refine Ev.bind (toValue_ev x1 hw1) ?_
  first | refine Ev.bind h1 ?_ | (obtain ⟨k1_, h1_⟩ := h1.rounds; refine Ev.fix h1_ ?_)
  refine Ev.bind (toValue_ev x0 hw0) ?_
  refine Ev.bind (toValue_ev x1 hw1) ?_
  first | refine Ev.bind h2 ?_ | (obtain ⟨k2_, h2_⟩ := h2.rounds; refine Ev.fix h2_ ?_)
  first | refine Ev.pos rfl ?_ | refine Ev.neg (by simp) ?_ | refine Ev.pos (by simp) ?_
  refine Ev.bind (toValue_ev x0 hw0) ?_
  refine Ev.bind (eqValue_ev _ (smValue_of x0 hW0 hw0)) ?_
  refine Ev.pos rfl ?_
  refine Ev.bind (toValue_ev x1 hw1) ?_
  refine Ev.bind (eqValue_ev _ (smValue_of x1 hW1 hw1)) ?_
  refine Ev.pos rfl ?_
  exact Ev.now _
theorem FnExactCountIn : laws_FnExactCountIn.Pure := by
  intro v0_0 v0_1 v0_2 v0_3 v1_0 v1_1 v1_2 v1_3 h0 h1
  exact (FnExactCountIn_all ⟨v0_0, v0_1, v0_2, v0_3⟩ h0 ⟨v1_0, v1_1, v1_2, v1_3⟩ h1).rounds
end Go.Proofs.Ytonimhfahjediaa.Pure
end
section
namespace Go.Proofs.Ytonimhfahjediaa.Rd
open Go.RowKit Go.Proofs.YtonimhfahjediaaW.PrintWords
set_option linter.unusedVariables false
/-- What reads as_ data of type t, by at most n steps, is of kind d and meets q. -/
def Op (P : Program) (n : Nat) (t : TypeId) {α : Type} (d : Kd α) (q : α → Prop) : Prop :=
  ∀ (H : Type) (enc : TypeId × Value → H) (w : World) (base : Nat) (spare : Nat → Bool) (held : Bool) (fuel : Nat) (cs : List Value) (x : DataW H × List MemPlace),
    fuel ≤ n → DataW.trod enc P w base spare held fuel t cs = some x → ∃ y, d.K w y cs ∧ q y
theorem Op.imp {P : Program} {n : Nat} {t : TypeId} {α : Type} {d d' : Kd α} {q q' : α → Prop} (h1 : ∀ w y cs, d.K w y cs → d'.K w y cs) (h2 : ∀ y, q y → q' y) (h : Op P n t d q) : Op P n t d' q' := by
  intro H enc w base spare held fuel cs x hf hx
  obtain ⟨y, hy, hq⟩ := h H enc w base spare held fuel cs x hf hx
  exact ⟨y, h1 _ _ _ hy, h2 _ hq⟩
theorem Op.iso {P : Program} {n : Nat} {t : TypeId} {α β : Type} {d : Kd α} {q : α → Prop} {f : β → α} (g : α → β) (hg : ∀ y, f (g y) = y) (h : Op P n t d q) : Op P n t (Kd.iso d f) (fun x => q (f x)) := by
  intro H enc w base spare held fuel cs x hf hx
  obtain ⟨y, hy, hq⟩ := h H enc w base spare held fuel cs x hf hx
  refine ⟨g y, ?_, ?_⟩
  · show d.K w (f (g y)) cs
    rw [hg]; exact hy
  · show q (f (g y))
    rw [hg]; exact hq
theorem Op.int {P : Program} {n : Nat} {t : TypeId} {k : IntKind} (ht : P.underlying t = some (.int k)) : Op P n t (Kd.int k) (fun x => (Lit.int k x).wf = true) := by
  intro H enc w base spare held fuel cs x hf hx
  obtain ⟨m, rfl, rfl, hw⟩ := DataW.trod_int ht hx
  exact ⟨m, rfl, hw⟩
theorem Op.bool {P : Program} {n : Nat} {t : TypeId} (ht : P.underlying t = some .bool) : Op P n t Kd.bool (fun _ => True) := by
  intro H enc w base spare held fuel cs x hf hx
  obtain ⟨m, rfl, rfl⟩ := DataW.trod_bool ht hx
  exact ⟨m, rfl, trivial⟩
theorem trod_string' {H : Type} {enc : TypeId × Value → H} {P : Program} {w : World} {base : Nat} {spare : Nat → Bool} {held : Bool} {fuel : Nat} {t : TypeId} {cs : List Value} {x : DataW H × List MemPlace}
    (ht : P.underlying t = some .string) (h : DataW.trod enc P w base spare held fuel t cs = some x) : ∃ s, cs = [.string s] ∧ s.size ≤ maxLen := by
  cases fuel with
  | zero => simp [DataW.trod] at h
  | succ n =>
    unfold DataW.trod at h
    rw [ht] at h
    split at h <;> simp_all
theorem Op.string {P : Program} {n : Nat} {t : TypeId} (ht : P.underlying t = some .string) : Op P n t Kd.string (fun s => s.size ≤ maxLen) := by
  intro H enc w base spare held fuel cs x hf hx
  obtain ⟨m, rfl, hm⟩ := trod_string' ht hx
  exact ⟨m, rfl, hm⟩
theorem add_add (a : Addr) (i j : Nat) : (a.add i).add j = a.add (i + j) := by
  unfold Addr.add
  by_cases h1 : i = 0 <;> by_cases h2 : j = 0 <;> simp [h1, h2, Nat.add_assoc]
theorem choose_list {α : Type} {p : Nat → α → Prop} (n : Nat) (h : ∀ i, i < n → ∃ y, p i y) : ∃ ys : List α, ys.length = n ∧ ∀ i y, ys[i]? = some y → p i y := by
  induction n with
  | zero => exact ⟨[], rfl, fun i y hy => by simp at hy⟩
  | succ n ih =>
    obtain ⟨ys, hl, hy⟩ := ih (fun i hi => h i (by omega))
    obtain ⟨z, hz⟩ := h n (by omega)
    refine ⟨ys ++ [z], by simp [hl], fun i y hi => ?_⟩
    by_cases hlt : i < n
    · rw [List.getElem?_append_left (by omega)] at hi
      exact hy i y hi
    · by_cases he : i = n
      · subst he
        rw [List.getElem?_append_right (by omega)] at hi
        simp [hl] at hi
        subst hi
        exact hz
      · rw [List.getElem?_eq_none (by simp; omega)] at hi
        cases hi
theorem Op.slice {P : Program} {n : Nat} {t e : TypeId} {α : Type} {d : Kd α} {q : α → Prop} (ht : P.underlying t = some (.slice e)) (hsz : P.cellsOf e = d.sz) (h : ∀ k, k < n → Op P k e d q) :
    Op P n t (Kd.slice e d) (fun xs => xs.length ≤ maxLen ∧ ∀ y ∈ xs, q y) := by
  intro H enc w base spare held fuel cs x hf hx
  rcases DataW.trod_slice ht hx with ⟨rfl, _⟩ | ⟨a, len, cap, elems, rest, m, hm, rfl, _, hb, hl, hc, hlen, hel, _, _⟩
  · exact ⟨[], ⟨none, 0, rfl, Nat.le_refl _, ⟨rfl, by simp, fun hp => absurd hp (by simp)⟩⟩, by simp, fun y hy => by simp at hy⟩
  · have hone : ∀ i, i < len → ∃ y, (∃ c, c.length = d.sz ∧ d.K w y c ∧ ∀ j u, c[j]? = some u → w.cell? (a.add (i * d.sz + j)) = some u) ∧ q y := by
      intro i hi
      have h1 := hel i hi
      rw [List.getElem?_eq_getElem (by omega)] at h1
      obtain ⟨c, hc1, hc2⟩ := Option.bind_eq_some_iff.1 h1
      obtain ⟨y, hy, hq⟩ := h m (by omega) H enc w base spare held m c _ (Nat.le_refl _) hc2
      obtain ⟨_, hcl, hcells⟩ := World.cells?_some hc1
      refine ⟨y, ⟨c, by omega, hy, fun j u hu => ?_⟩, hq⟩
      have hj : j < P.cellsOf e := by
        rw [← hcl]
        exact (List.getElem?_eq_some_iff.1 hu).1
      have := hcells j hj
      rw [add_add, hsz] at this
      rw [this, hu]
    obtain ⟨ys, hyl, hys⟩ := choose_list len hone
    have hmx : len ≤ 9223372036854775807 := by
      have : cap ≤ 9223372036854775807 := hc
      omega
    refine ⟨ys, ⟨some a, cap, by rw [hyl], by omega, ⟨rfl, by omega, fun _ => ⟨a, rfl, fun j p hj => (hys j p hj).1⟩⟩⟩, by rw [hyl]; exact hmx, fun y hy => ?_⟩
    obtain ⟨i, hi, rfl⟩ := List.getElem_of_mem hy
    exact (hys i _ (List.getElem?_eq_getElem hi)).2
/-- Fields, from an offset on. -/
def OpF (P : Program) (n : Nat) (fs : List Field) (off : Nat) {α : Type} (d : Kd α) (q : α → Prop) : Prop :=
  ∀ (H : Type) (enc : TypeId × Value → H) (w : World) (base : Nat) (spare : Nat → Bool) (held : Bool) (fuel : Nat) (cs : List Value), fuel ≤ n →
    (∀ f ∈ fs, ∃ x, DataW.trod enc P w base spare held fuel f.type ((cs.drop f.offset).take (P.cellsOf f.type)) = some x) → cs.length = off + d.sz → ∃ y, d.K w y (cs.drop off) ∧ q y
theorem OpF.one {P : Program} {n : Nat} {f : Field} {off : Nat} {α : Type} {d : Kd α} {q : α → Prop} (ho : f.offset = off) (hsz : P.cellsOf f.type = d.sz) (h : Op P n f.type d q) : OpF P n [f] off d q := by
  intro H enc w base spare held fuel cs hf hx hl
  obtain ⟨x, hx⟩ := hx f (List.mem_singleton.2 rfl)
  rw [ho, hsz, List.take_of_length_le (by rw [List.length_drop]; omega)] at hx
  exact h H enc w base spare held fuel _ x hf hx
theorem OpF.cons {P : Program} {n : Nat} {f : Field} {fs : List Field} {off : Nat} {α β : Type} {a : Kd α} {b : Kd β} {qa : α → Prop} {qb : β → Prop} (ho : f.offset = off) (hsz : P.cellsOf f.type = a.sz) (h : Op P n f.type a qa) (hr : OpF P n fs (off + a.sz) b qb) :
    OpF P n (f :: fs) off (Kd.pair a b) (fun y => qa y.1 ∧ qb y.2) := by
  intro H enc w base spare held fuel cs hf hx hl
  have hl' : cs.length = off + (a.sz + b.sz) := hl
  obtain ⟨x, h1⟩ := hx f (List.mem_cons_self ..)
  rw [ho, hsz] at h1
  obtain ⟨y, hy, hq⟩ := h H enc w base spare held fuel _ x hf h1
  obtain ⟨z, hz, hq2⟩ := hr H enc w base spare held fuel cs hf (fun g hg => hx g (List.mem_cons_of_mem _ hg)) (by omega)
  refine ⟨(y, z), ⟨_, _, ?_, hy, hz⟩, hq, hq2⟩
  rw [← List.drop_drop, List.take_append_drop]
theorem Op.struct {P : Program} {n : Nat} {t : TypeId} {fs : Array Field} {α : Type} {d : Kd α} {q : α → Prop} (ht : P.underlying t = some (.struct fs)) (hsz : P.cellsOf t = d.sz) (h : ∀ k, k < n → OpF P k fs.toList 0 d q) : Op P n t d q := by
  intro H enc w base spare held fuel cs x hf hx
  obtain ⟨xs, m, hm, _, hl, hxl, hfs⟩ := DataW.trod_struct ht hx
  have hr := h m (by omega) H enc w base spare held m cs (Nat.le_refl _) (fun f hfm => ?_) (by omega)
  · simpa using hr
  · obtain ⟨i, hi, rfl⟩ := List.getElem_of_mem hfm
    have hi' : i < fs.size := by simpa using hi
    have h2 := hfs i _ (Array.getElem?_eq_getElem hi')
    rw [List.getElem?_eq_getElem (by omega)] at h2
    exact ⟨_, by simpa using h2⟩
/-- The same at whatever fuel. -/
theorem Op.open_ {P : Program} {t : TypeId} {α : Type} {d : Kd α} {q : α → Prop} (h : ∀ n, Op P n t d q) {H : Type} {enc : TypeId × Value → H} {w : World} {base : Nat} {spare : Nat → Bool} {held : Bool} {v : Value} {x : DataW H} {ps : List MemPlace}
    (ht : DataW.Trod enc P w base spare held t v x ps) : ∃ y, d.K w y v.cells.toList ∧ q y := by
  obtain ⟨fuel, hf⟩ := ht
  exact h fuel H enc w base spare held fuel _ _ (Nat.le_refl _) hf
end Go.Proofs.Ytonimhfahjediaa.Rd
end
section
namespace Go.Proofs.Ytonimhfahjediaa.Pc
open Go.RowKit Go.Proofs.Ytonimhfahjediaa.Ext Go.Proofs.YtonimhfahjediaaW.PrintWords Go.Proofs.YtonimhfahjediaaW.PrintLast Go.Proofs.YtonimhfahjediaaW.PrintMore Go.Proofs.Ytonimhfahjediaa
set_option linter.unusedVariables false
set_option linter.unusedSimpArgs false

theorem fold25 : ∀ (w : World) (x : S25) (cs : List Value), (F25 k25).K w x cs → k25.K w x cs := by
  intro w x cs h
  obtain ⟨_, _, rfl, rfl, ⟨_, _, rfl, rfl, ⟨_, _, rfl, ⟨A2, c2, rfl, l2, g2⟩, ⟨A3, c3, rfl, l3, g3⟩⟩⟩⟩ := h
  exact k25_mk w x l2 g2 l3 g3
theorem op25 : ∀ n, Rd.Op Try.prog n 25 k25 W25 := by
  intro n
  induction n using Nat.strongRecOn with
  | _ n ih =>
  exact Rd.Op.imp (d := F25 k25) fold25 (fun x h => W25.mk h.1 h.2.1 h.2.2.1 h.2.2.2.1 h.2.2.2.2) (Rd.Op.iso (g := fun p => ⟨p.1, p.2.1, p.2.2.1, p.2.2.2⟩) (fun _ => rfl) (Rd.Op.struct Try.underlying25 (by kernel_rfl) (fun j0 hj0 => (Rd.OpF.cons rfl (by kernel_rfl) (Rd.Op.int Try.underlying3) (Rd.OpF.cons rfl (by kernel_rfl) (Rd.Op.int Try.underlying3) (Rd.OpF.cons rfl (by kernel_rfl) (Rd.Op.slice Try.underlying22 (by kernel_rfl) (fun j1 hj1 => (Rd.Op.string Try.underlying9))) (Rd.OpF.one rfl (by kernel_rfl) (Rd.Op.slice Try.underlying23 (by kernel_rfl) (fun j1 hj1 => ih j1 (by omega))))))))))
end Go.Proofs.Ytonimhfahjediaa.Pc
end
