/- The law FnExactEmptyDB, at whatever arguments read as data of its types. -/
import Derived.Test.YtcgdaeaaimkhdaaZEmptyDBWTabM
import Derived.Test.YtcgdaeaaimkhdaaZEmptyDBPy12M
import Derived.Test.YtcgdaeaaimkhdaaZEmptyDBPyFValueM
import Derived.Test.YtcgdaeaaimkhdaaZEmptyDBPyFSchemaM
import Derived.Test.YtcgdaeaaimkhdaaZEmptyDBPy7M
import Derived.Test.YtcgdaeaaimkhdaaZEmptyDBPy6M
import Derived.Test.YtcgdaeaaimkhdaaZEmptyDBWLastM
import Derived.Test.YtcgdaeaaimkhdaaZEmptyDBWWords
import Derived.Deep.Slices
import Derived.ChangeArms
import Derived.DataReads
section
namespace Go.Proofs.Ytcgdaeaaimkhdaa.Py
open Go.RowKit Go.Proofs.YtcgdaeaaimkhdaaW.PrintWords Go.Proofs.YtcgdaeaaimkhdaaW.PrintLast Go.Proofs.Ytcgdaeaaimkhdaa.Pl Go.Proofs.Ytcgdaeaaimkhdaa.Ext
set_option linter.unusedVariables false
set_option linter.unusedSimpArgs false
theorem FnExactEmptyDB_told (x0 : S38) (hW0 : W38 x0) (W : World) {A0 : Option Addr} {c0 : Nat} (g0 : Kd.C k136 W A0 x0.f0.length x0.f0) (k0 : x0.f0.length ≤ c0) :
    Calls Try.prog 5 #[.agg #[.slice A0 x0.f0.length c0]] W fun e w' => e = .returned (.bool true) ∧ Below W.heap.size W w' := by
  have hs := szSchema_ev x0 hW0 1048576 (by omega) (by omega)
  by_cases hc : cut (wtSchema x0) 1048576 < 0
  · exact FnExactEmptyDB_stop1 x0 (cvSchema x0) ⟨[]⟩ _ hs.rounds (decide_eq_true hc) W g0 k0
  have hw : wtSchema x0 ≤ 1048576 := by
    have := (not_congr (cut_neg (n := wtSchema x0) (left := 1048576))).1 hc
    omega
  have sm := smSchema_of x0 hW0 hw
  have hw2 := hw
  rw [wtSchema_eq] at hw2
  obtain ⟨h2, h3⟩ := EmptyDB_same (cvSchema x0).f0 sm.p0.1
  have hD : SmDB (⟨(cvSchema x0).f0.map emptyRow⟩ : S50) := by
    refine ⟨by dsimp only; rw [List.length_map]; exact sm.p0.1, fun y hy => ?_⟩
    dsimp only at hy
    obtain ⟨z, hz, rfl⟩ := List.mem_map.1 hy
    exact emptyRow_sm z (sm.p0.2 z hz).p0
  have ln := fun y hy => lnTableData_of y (hD.p0.2 y hy)
  have c0 := cnTableDeclS_cv x0.f0
  have e2 : (cvSchema x0).f0 = cvTableDeclS x0.f0 := by rw [cvSchema_eq]
  have e3 : cnTableDataS ((cvSchema x0).f0.map emptyRow) = (cvSchema x0).f0.length := cnTableDataS_empty _
  have e4 := sm.p0.1
  refine FnExactEmptyDB_walk x0 (cvSchema x0) ⟨(cvSchema x0).f0.map emptyRow⟩ _ _ _ hs.rounds (decide_eq_false hc) (toSchema_ev x0 hw).rounds h2.rounds h3.rounds (eqDB_ev _ hD).rounds (eqSchema_ev _ sm).rounds
    (marksTableDeclS _ sm.p0.1 (fun y hy => lnTableDecl_of y (sm.p0.2 y hy))) (by rw [e2]; omega) rfl (decide_eq_false (by omega)) (marksTableDataS _ hD.p0.1 ln) (by dsimp only; omega) rfl (decide_eq_false (by omega)) ?_ W g0 k0
  refine Ev.rounds ?_
  simp only [laws_heldDB.f]
  exact Ev.bind (heldTableDataS_ev _ hD.p0.1 ln 1 (by omega) (by dsimp only; omega)) (Ev.neg (by omega) (Ev.now _))

end Go.Proofs.Ytcgdaeaaimkhdaa.Py
end
section
namespace Go.Proofs.Ytcgdaeaaimkhdaa.Rd
open Go.RowKit Go.Proofs.YtcgdaeaaimkhdaaW.PrintWords
set_option linter.unusedVariables false
/-- What reads as_ data of type t, by at most n steps, is of kind d and meets q. -/
def Op (P : Program) (n : Nat) (t : TypeId) {α : Type} (d : Kd α) (q : α → Prop) : Prop :=
  ∀ (H : Type) (enc : TypeId × Value → H) (w : World) (base : Nat) (spare : Nat → Bool) (held : Bool) (fuel : Nat) (cs : List Value) (x : DataW H × List MemPlace),
    fuel ≤ n → DataW.trod enc P w base spare held fuel t cs = some x → ∃ y, d.K w y cs ∧ q y
theorem Op.imp {P : Program} {n : Nat} {t : TypeId} {α : Type} {d d' : Kd α} {q q' : α → Prop} (h1 : ∀ w y cs, d.K w y cs → d'.K w y cs) (h2 : ∀ y, q y → q' y) (h : Op P n t d q) : Op P n t d' q' := by
  intro H enc w base spare held fuel cs x hf hx
  obtain ⟨y, hy, hq⟩ := h H enc w base spare held fuel cs x hf hx
  exact ⟨y, h1 _ _ _ hy, h2 _ hq⟩
theorem Op.iso {P : Program} {n : Nat} {t : TypeId} {α β : Type} {d : Kd α} {q : α → Prop} {f : β → α} (g : α → β) (hg : ∀ y, f (g y) = y) (h : Op P n t d q) : Op P n t (Kd.iso d f) (fun x => q (f x)) := by
  intro H enc w base spare held fuel cs x hf hx
  obtain ⟨y, hy, hq⟩ := h H enc w base spare held fuel cs x hf hx
  refine ⟨g y, ?_, ?_⟩
  · show d.K w (f (g y)) cs
    rw [hg]; exact hy
  · show q (f (g y))
    rw [hg]; exact hq
theorem Op.int {P : Program} {n : Nat} {t : TypeId} {k : IntKind} (ht : P.underlying t = some (.int k)) : Op P n t (Kd.int k) (fun x => (Lit.int k x).wf = true) := by
  intro H enc w base spare held fuel cs x hf hx
  obtain ⟨m, rfl, rfl, hw⟩ := DataW.trod_int ht hx
  exact ⟨m, rfl, hw⟩
theorem Op.bool {P : Program} {n : Nat} {t : TypeId} (ht : P.underlying t = some .bool) : Op P n t Kd.bool (fun _ => True) := by
  intro H enc w base spare held fuel cs x hf hx
  obtain ⟨m, rfl, rfl⟩ := DataW.trod_bool ht hx
  exact ⟨m, rfl, trivial⟩
theorem trod_string' {H : Type} {enc : TypeId × Value → H} {P : Program} {w : World} {base : Nat} {spare : Nat → Bool} {held : Bool} {fuel : Nat} {t : TypeId} {cs : List Value} {x : DataW H × List MemPlace}
    (ht : P.underlying t = some .string) (h : DataW.trod enc P w base spare held fuel t cs = some x) : ∃ s, cs = [.string s] ∧ s.size ≤ maxLen := by
  cases fuel with
  | zero => simp [DataW.trod] at h
  | succ n =>
    unfold DataW.trod at h
    rw [ht] at h
    split at h <;> simp_all
theorem Op.string {P : Program} {n : Nat} {t : TypeId} (ht : P.underlying t = some .string) : Op P n t Kd.string (fun s => s.size ≤ maxLen) := by
  intro H enc w base spare held fuel cs x hf hx
  obtain ⟨m, rfl, hm⟩ := trod_string' ht hx
  exact ⟨m, rfl, hm⟩
theorem add_add (a : Addr) (i j : Nat) : (a.add i).add j = a.add (i + j) := by
  unfold Addr.add
  by_cases h1 : i = 0 <;> by_cases h2 : j = 0 <;> simp [h1, h2, Nat.add_assoc]
theorem choose_list {α : Type} {p : Nat → α → Prop} (n : Nat) (h : ∀ i, i < n → ∃ y, p i y) : ∃ ys : List α, ys.length = n ∧ ∀ i y, ys[i]? = some y → p i y := by
  induction n with
  | zero => exact ⟨[], rfl, fun i y hy => by simp at hy⟩
  | succ n ih =>
    obtain ⟨ys, hl, hy⟩ := ih (fun i hi => h i (by omega))
    obtain ⟨z, hz⟩ := h n (by omega)
    refine ⟨ys ++ [z], by simp [hl], fun i y hi => ?_⟩
    by_cases hlt : i < n
    · rw [List.getElem?_append_left (by omega)] at hi
      exact hy i y hi
    · by_cases he : i = n
      · subst he
        rw [List.getElem?_append_right (by omega)] at hi
        simp [hl] at hi
        subst hi
        exact hz
      · rw [List.getElem?_eq_none (by simp; omega)] at hi
        cases hi
theorem Op.slice {P : Program} {n : Nat} {t e : TypeId} {α : Type} {d : Kd α} {q : α → Prop} (ht : P.underlying t = some (.slice e)) (hsz : P.cellsOf e = d.sz) (h : ∀ k, k < n → Op P k e d q) :
    Op P n t (Kd.slice e d) (fun xs => xs.length ≤ maxLen ∧ ∀ y ∈ xs, q y) := by
  intro H enc w base spare held fuel cs x hf hx
  rcases DataW.trod_slice ht hx with ⟨rfl, _⟩ | ⟨a, len, cap, elems, rest, m, hm, rfl, _, hb, hl, hc, hlen, hel, _, _⟩
  · exact ⟨[], ⟨none, 0, rfl, Nat.le_refl _, ⟨rfl, by simp, fun hp => absurd hp (by simp)⟩⟩, by simp, fun y hy => by simp at hy⟩
  · have hone : ∀ i, i < len → ∃ y, (∃ c, c.length = d.sz ∧ d.K w y c ∧ ∀ j u, c[j]? = some u → w.cell? (a.add (i * d.sz + j)) = some u) ∧ q y := by
      intro i hi
      have h1 := hel i hi
      rw [List.getElem?_eq_getElem (by omega)] at h1
      obtain ⟨c, hc1, hc2⟩ := Option.bind_eq_some_iff.1 h1
      obtain ⟨y, hy, hq⟩ := h m (by omega) H enc w base spare held m c _ (Nat.le_refl _) hc2
      obtain ⟨_, hcl, hcells⟩ := World.cells?_some hc1
      refine ⟨y, ⟨c, by omega, hy, fun j u hu => ?_⟩, hq⟩
      have hj : j < P.cellsOf e := by
        rw [← hcl]
        exact (List.getElem?_eq_some_iff.1 hu).1
      have := hcells j hj
      rw [add_add, hsz] at this
      rw [this, hu]
    obtain ⟨ys, hyl, hys⟩ := choose_list len hone
    have hmx : len ≤ 9223372036854775807 := by
      have : cap ≤ 9223372036854775807 := hc
      omega
    refine ⟨ys, ⟨some a, cap, by rw [hyl], by omega, ⟨rfl, by omega, fun _ => ⟨a, rfl, fun j p hj => (hys j p hj).1⟩⟩⟩, by rw [hyl]; exact hmx, fun y hy => ?_⟩
    obtain ⟨i, hi, rfl⟩ := List.getElem_of_mem hy
    exact (hys i _ (List.getElem?_eq_getElem hi)).2
/-- Fields, from an offset on. -/
def OpF (P : Program) (n : Nat) (fs : List Field) (off : Nat) {α : Type} (d : Kd α) (q : α → Prop) : Prop :=
  ∀ (H : Type) (enc : TypeId × Value → H) (w : World) (base : Nat) (spare : Nat → Bool) (held : Bool) (fuel : Nat) (cs : List Value), fuel ≤ n →
    (∀ f ∈ fs, ∃ x, DataW.trod enc P w base spare held fuel f.type ((cs.drop f.offset).take (P.cellsOf f.type)) = some x) → cs.length = off + d.sz → ∃ y, d.K w y (cs.drop off) ∧ q y
theorem OpF.one {P : Program} {n : Nat} {f : Field} {off : Nat} {α : Type} {d : Kd α} {q : α → Prop} (ho : f.offset = off) (hsz : P.cellsOf f.type = d.sz) (h : Op P n f.type d q) : OpF P n [f] off d q := by
  intro H enc w base spare held fuel cs hf hx hl
  obtain ⟨x, hx⟩ := hx f (List.mem_singleton.2 rfl)
  rw [ho, hsz, List.take_of_length_le (by rw [List.length_drop]; omega)] at hx
  exact h H enc w base spare held fuel _ x hf hx
theorem OpF.cons {P : Program} {n : Nat} {f : Field} {fs : List Field} {off : Nat} {α β : Type} {a : Kd α} {b : Kd β} {qa : α → Prop} {qb : β → Prop} (ho : f.offset = off) (hsz : P.cellsOf f.type = a.sz) (h : Op P n f.type a qa) (hr : OpF P n fs (off + a.sz) b qb) :
    OpF P n (f :: fs) off (Kd.pair a b) (fun y => qa y.1 ∧ qb y.2) := by
  intro H enc w base spare held fuel cs hf hx hl
  have hl' : cs.length = off + (a.sz + b.sz) := hl
  obtain ⟨x, h1⟩ := hx f (List.mem_cons_self ..)
  rw [ho, hsz] at h1
  obtain ⟨y, hy, hq⟩ := h H enc w base spare held fuel _ x hf h1
  obtain ⟨z, hz, hq2⟩ := hr H enc w base spare held fuel cs hf (fun g hg => hx g (List.mem_cons_of_mem _ hg)) (by omega)
  refine ⟨(y, z), ⟨_, _, ?_, hy, hz⟩, hq, hq2⟩
  rw [← List.drop_drop, List.take_append_drop]
theorem Op.struct {P : Program} {n : Nat} {t : TypeId} {fs : Array Field} {α : Type} {d : Kd α} {q : α → Prop} (ht : P.underlying t = some (.struct fs)) (hsz : P.cellsOf t = d.sz) (h : ∀ k, k < n → OpF P k fs.toList 0 d q) : Op P n t d q := by
  intro H enc w base spare held fuel cs x hf hx
  obtain ⟨xs, m, hm, _, hl, hxl, hfs⟩ := DataW.trod_struct ht hx
  have hr := h m (by omega) H enc w base spare held m cs (Nat.le_refl _) (fun f hfm => ?_) (by omega)
  · simpa using hr
  · obtain ⟨i, hi, rfl⟩ := List.getElem_of_mem hfm
    have hi' : i < fs.size := by simpa using hi
    have h2 := hfs i _ (Array.getElem?_eq_getElem hi')
    rw [List.getElem?_eq_getElem (by omega)] at h2
    exact ⟨_, by simpa using h2⟩
/-- The same at whatever fuel. -/
theorem Op.open_ {P : Program} {t : TypeId} {α : Type} {d : Kd α} {q : α → Prop} (h : ∀ n, Op P n t d q) {H : Type} {enc : TypeId × Value → H} {w : World} {base : Nat} {spare : Nat → Bool} {held : Bool} {v : Value} {x : DataW H} {ps : List MemPlace}
    (ht : DataW.Trod enc P w base spare held t v x ps) : ∃ y, d.K w y v.cells.toList ∧ q y := by
  obtain ⟨fuel, hf⟩ := ht
  exact h fuel H enc w base spare held fuel _ _ (Nat.le_refl _) hf
end Go.Proofs.Ytcgdaeaaimkhdaa.Rd
end
section
namespace Go.Proofs.Ytcgdaeaaimkhdaa.Py
open Go.RowKit Go.Proofs.Ytcgdaeaaimkhdaa.Ext Go.Proofs.YtcgdaeaaimkhdaaW.PrintWords Go.Proofs.YtcgdaeaaimkhdaaW.PrintLast Go.Proofs.YtcgdaeaaimkhdaaW.PrintMore Go.Proofs.Ytcgdaeaaimkhdaa
set_option linter.unusedVariables false
set_option linter.unusedSimpArgs false

theorem fold25 : ∀ (w : World) (x : S25) (cs : List Value), (F25 k25).K w x cs → k25.K w x cs := by
  intro w x cs h
  obtain ⟨_, _, rfl, rfl, ⟨_, _, rfl, ⟨A1, c1, rfl, l1, g1⟩, ⟨A2, c2, rfl, l2, g2⟩⟩⟩ := h
  exact k25_mk w x l1 g1 l2 g2
theorem op25 : ∀ n, Rd.Op Try.prog n 25 k25 W25 := by
  intro n
  induction n using Nat.strongRecOn with
  | _ n ih =>
  exact Rd.Op.imp (d := F25 k25) fold25 (fun x h => W25.mk h.1 h.2.1 h.2.2.1 h.2.2.2) (Rd.Op.iso (g := fun p => ⟨p.1, p.2.1, p.2.2⟩) (fun _ => rfl) (Rd.Op.struct Try.underlying25 (by kernel_rfl) (fun j0 hj0 => (Rd.OpF.cons rfl (by kernel_rfl) (Rd.Op.int Try.underlying3) (Rd.OpF.cons rfl (by kernel_rfl) (Rd.Op.slice Try.underlying22 (by kernel_rfl) (fun j1 hj1 => (Rd.Op.string Try.underlying9))) (Rd.OpF.one rfl (by kernel_rfl) (Rd.Op.slice Try.underlying23 (by kernel_rfl) (fun j1 hj1 => ih j1 (by omega)))))))))
theorem op136 : ∀ n, Rd.Op Try.prog n 136 k136 W136 := by
  intro n
  exact Rd.Op.imp (d := k136) (fun _ _ _ h => h) (fun x h => h) (Rd.Op.iso (g := fun p => ⟨p.1, p.2⟩) (fun _ => rfl) (Rd.Op.struct Try.underlying136 (by kernel_rfl) (fun j0 hj0 => (Rd.OpF.cons rfl (by kernel_rfl) (Rd.Op.string Try.underlying9) (Rd.OpF.one rfl (by kernel_rfl) (op25 _))))))
theorem op38 : ∀ n, Rd.Op Try.prog n 38 k38 W38 := by
  intro n
  exact Rd.Op.imp (d := k38) (fun _ _ _ h => h) (fun x h => h) (Rd.Op.iso (g := fun p => ⟨p⟩) (fun _ => rfl) (Rd.Op.struct Try.underlying38 (by kernel_rfl) (fun j0 hj0 => (Rd.OpF.one rfl (by kernel_rfl) (Rd.Op.slice Try.underlying36 (by kernel_rfl) (fun j1 hj1 => (op136 _)))))))
end Go.Proofs.Ytcgdaeaaimkhdaa.Py
end
