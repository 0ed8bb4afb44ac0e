/- A map with strings as keys that the call makes: made, stored into, looked up, at elements of a plain type. No condition. -/
import Derived.Test.YtochgledinnlhaaZSortNamesWLastM
import Derived.StringKeys
import Derived.Test.YtochgledinnlhaaZSortNamesPu3
import Derived.Test.YtochgledinnlhaaZSortNamesPu2M
import Derived.Sort.Walk0
import Derived.Test.YtochgledinnlhaaZSortNamesWWords
import Derived.Deep.Slices
import Derived.ChangeArms
import Derived.DataReads
section
namespace Go.Proofs.Ytochgledinnlhaa.Sm
open Go.RowKit Go.Proofs.YtochgledinnlhaaW.PrintWords Go.Proofs.Ytochgledinnlhaa.Ext
set_option linter.unusedVariables false
/-- How the elements of a type stand in memory, and how they read. -/
structure El (P : Program) (e : TypeId) (α : Type) where
  enc : α → Value
  lit : α → Lit
  ok : α → Prop
  zero : α
  into : ∀ x, ok x → plainElem (H := Unit) P e (enc x) = some (.lit (lit x), [])
  inv : ∀ v z, plainElem (H := Unit) P e v = some z → ∃ x, v = enc x ∧ z = (.lit (lit x), []) ∧ ok x
  inj : ∀ x y, lit x = lit y → x = y
  zok : ok zero
  zrun : ∀ w, (zeroValue e).run P w = .ok (enc zero) w
section
variable {P : Program} {k e : TypeId} {α : Type} {E : El P e α}
/-- Block b is a map of at most n entries, from string (type k), that reads as_ f. -/
def SMap (E : El P e α) (k : TypeId) (W : World) (b n : Nat) (f : ByteArray → α) : Prop :=
  ∃ D : DataW Unit, W.ownsMap P k (plainElem P e) b n D ∧ Maps.IsMap D ∧ ∀ s : ByteArray, D.atKey (.string s.data.toList) (.lit (E.lit E.zero)) = .lit (E.lit (f s))
def put (f : ByteArray → α) (s : ByteArray) (v : α) : ByteArray → α := fun x => if x = s then v else f x
theorem SMap.kept {W W' : World} {b n : Nat} {f : ByteArray → α} (h : SMap E k W b n f) {row : Option Nat} (hg : W.grownBy W' row) (hne : some b ≠ row) : SMap E k W' b n f := by
  obtain ⟨D, h1, h2, h3⟩ := h
  exact ⟨D, h1.kept hg hne, h2, h3⟩
theorem SMap.lt {W : World} {b n : Nat} {f : ByteArray → α} (h : SMap E k W b n f) : b < W.heap.size := by
  obtain ⟨D, h1, _⟩ := h
  exact h1.lt
theorem SMap.at {W W' : World} {b n : Nat} {f : ByteArray → α} (h : SMap E k W b n f) (hb : W'.heap[b]? = W.heap[b]?) : SMap E k W' b n f := by
  obtain ⟨D, ⟨es, c, h1, h5⟩, h2, h3⟩ := h
  exact ⟨D, ⟨es, c, hb.trans h1, h5⟩, h2, h3⟩
theorem SMap.below {W W' : World} {b n : Nat} {f : ByteArray → α} (h : SMap E k W b n f) (hb : Below W.heap.size W W') : SMap E k W' b n f := h.at (hb.block _ h.lt)
theorem SMap.mono {W : World} {b n m : Nat} {f : ByteArray → α} (h : SMap E k W b n f) (hn : n ≤ m) : SMap E k W b m f := by
  obtain ⟨D, h1, h2, h3⟩ := h
  exact ⟨D, h1.mono hn, h2, h3⟩
theorem SMap.congr {W : World} {b n : Nat} {f g : ByteArray → α} (h : SMap E k W b n f) (hfg : ∀ s, f s = g s) : SMap E k W b n g := (funext hfg : f = g) ▸ h
theorem toList_inj {a b : ByteArray} (h : a.data.toList = b.data.toList) : a = b := by
  cases a; cases b
  simp only [ByteArray.mk.injEq]
  exact Array.toList_inj.1 h
end
section
variable {P : Program} {k e : TypeId} {α : Type} {E : El P e α} {ops : Array Oper} {Q : Exit → Act → World → Prop}
end
end Go.Proofs.Ytochgledinnlhaa.Sm
end
section
namespace Go.Proofs.Ytochgledinnlhaa.Pu
open Go.RowKit Go.Proofs.YtochgledinnlhaaW.PrintWords Go.Proofs.YtochgledinnlhaaW.PrintLast Go.Proofs.Ytochgledinnlhaa.Pl Go.Proofs.Ytochgledinnlhaa.Ext
set_option linter.unusedVariables false
set_option linter.unusedSimpArgs false
open Go.Sort Go.Lib Go.Proofs
def lt (a b : ByteArray) : Prop := a.data.toList < b.data.toList
instance : DecidableRel lt := fun a b => inferInstanceAs (Decidable (a.data.toList < b.data.toList))
theorem lt_irr (a : ByteArray) : ¬ lt a a := List.lt_irrefl _
theorem lt_tr {a b c : ByteArray} (h : lt a b) (h2 : lt b c) : lt a c := List.lt_trans h h2
theorem lt_tot {a b : ByteArray} (h : ¬ lt a b) (h2 : ¬ a = b) : lt b a := by
  by_cases h3 : lt b a
  · exact h3
  · exact absurd (Sm.toList_inj (List.le_antisymm (List.not_lt.1 h3) (List.not_lt.1 h))) h2
def ins (x : ByteArray) : List ByteArray → List ByteArray
  | [] => [x]
  | y :: r => if lt y x then y :: ins x r else if y = x then y :: r else x :: y :: r
theorem mem_ins (s x : ByteArray) : ∀ l : List ByteArray, x ∈ ins s l ↔ x = s ∨ x ∈ l
  | [] => by simp [ins]
  | y :: r => by
    have ih := mem_ins s x r
    unfold ins
    split
    · simp only [List.mem_cons, ih]
      constructor
      · rintro (h | h | h) <;> simp [h]
      · rintro (h | h | h) <;> simp [h]
    · split
      · rename_i h
        subst h
        simp
      · simp
theorem asc_ins (s : ByteArray) : ∀ l : List ByteArray, l.Pairwise lt → (ins s l).Pairwise lt
  | [], _ => by simp [ins]
  | y :: r, h => by
    have h1 := List.pairwise_cons.1 h
    unfold ins
    split
    · rename_i hlt
      refine List.pairwise_cons.2 ⟨fun z hz => ?_, asc_ins s r h1.2⟩
      rcases (mem_ins s z r).1 hz with rfl | hz
      · exact hlt
      · exact h1.1 z hz
    · split
      · exact h
      · rename_i hlt hne
        have h3 := lt_tot hlt hne
        refine List.pairwise_cons.2 ⟨fun z hz => ?_, h⟩
        rcases List.mem_cons.1 hz with rfl | hz
        · exact h3
        · exact lt_tr h3 (h1.1 z hz)
theorem len_ins (s : ByteArray) : ∀ l : List ByteArray, (ins s l).length ≤ l.length + 1
  | [] => by simp [ins]
  | y :: r => by
    have := len_ins s r
    unfold ins
    split
    · simp; omega
    · split <;> simp
theorem asc_unique : ∀ (a b : List ByteArray), a.Pairwise lt → b.Pairwise lt → (∀ x, x ∈ a ↔ x ∈ b) → a = b
  | [], b, _, _, h => by
    cases b with
    | nil => rfl
    | cons y t => exact absurd ((h y).2 (List.mem_cons_self ..)) (by simp)
  | x :: r, [], _, _, h => absurd ((h x).1 (List.mem_cons_self ..)) (by simp)
  | x :: r, y :: t, ha, hb, h => by
    have ha1 := List.pairwise_cons.1 ha
    have hb1 := List.pairwise_cons.1 hb
    have hxy : x = y := by
      rcases List.mem_cons.1 ((h x).1 (List.mem_cons_self ..)) with h1 | h1
      · exact h1
      · rcases List.mem_cons.1 ((h y).2 (List.mem_cons_self ..)) with h2 | h2
        · exact h2.symm
        · exact absurd (lt_tr (hb1.1 x h1) (ha1.1 y h2)) (lt_irr y)
    subst hxy
    congr 1
    refine asc_unique r t ha1.2 hb1.2 (fun z => ⟨fun hz => ?_, fun hz => ?_⟩)
    · rcases List.mem_cons.1 ((h z).1 (List.mem_cons_of_mem _ hz)) with h1 | h1
      · subst h1; exact absurd (ha1.1 z hz) (lt_irr z)
      · exact h1
    · rcases List.mem_cons.1 ((h z).2 (List.mem_cons_of_mem _ hz)) with h1 | h1
      · subst h1; exact absurd (hb1.1 z hz) (lt_irr z)
      · exact h1
def srt (l : List ByteArray) : List ByteArray := l.foldl (fun acc s => ins s acc) []
theorem fold_ins : ∀ (l acc : List ByteArray), acc.Pairwise lt → (l.foldl (fun acc s => ins s acc) acc).Pairwise lt ∧ (∀ x, x ∈ l.foldl (fun acc s => ins s acc) acc ↔ x ∈ acc ∨ x ∈ l) ∧ (l.foldl (fun acc s => ins s acc) acc).length ≤ acc.length + l.length
  | [], acc, h => ⟨h, by simp, by simp⟩
  | s :: r, acc, h => by
    obtain ⟨h1, h2, h3⟩ := fold_ins r (ins s acc) (asc_ins s acc h)
    refine ⟨h1, fun x => ?_, ?_⟩
    · rw [List.foldl_cons, h2, mem_ins]
      simp only [List.mem_cons]
      constructor
      · rintro ((h | h) | h) <;> simp [h]
      · rintro (h | h | h) <;> simp [h]
    · have := len_ins s acc
      rw [List.foldl_cons, List.length_cons]
      omega
/-- What compact makes of a list in order. -/
theorem compact_asc (d : Array (List UInt8)) (hs : ∀ i j, i ≤ j → j < d.size → d[i]! ≤ d[j]!) : ∀ m, m ≤ d.size →
    (compactUpTo d m).Pairwise (· < ·) ∧ (∀ x, x ∈ compactUpTo d m ↔ ∃ j, j < m ∧ x = d[j]!)
  | 0, _ => by simp [compactUpTo]
  | m + 1, h => by
    obtain ⟨h1, h2⟩ := compact_asc d hs m (by omega)
    rw [compactUpTo_succ]
    by_cases hk : keeps d m = true
    · rw [if_pos hk]
      refine ⟨?_, fun x => ?_⟩
      · refine List.pairwise_append.2 ⟨h1, List.pairwise_singleton _ _, fun a ha b hb => ?_⟩
        obtain ⟨j, hj, rfl⟩ := (h2 a).1 ha
        rw [List.mem_singleton.1 hb]
        have h3 := hs j (m - 1) (by omega) (by omega)
        have h4 := hs (m - 1) m (by omega) (by omega)
        have h5 : d[m]! ≠ d[m - 1]! := by
          unfold keeps at hk
          rcases of_decide_eq_true hk with h | h
          · omega
          · exact h
        by_cases hlt : d[j]! < d[m]!
        · exact hlt
        · have h6 := List.not_lt.1 hlt
          exact absurd (List.le_antisymm (List.le_trans h6 h3) h4) h5
      · rw [List.mem_append, h2, List.mem_singleton]
        constructor
        · rintro (⟨j, hj, rfl⟩ | rfl)
          · exact ⟨j, by omega, rfl⟩
          · exact ⟨m, by omega, rfl⟩
        · rintro ⟨j, hj, rfl⟩
          by_cases e : j = m
          · subst e; exact .inr rfl
          · exact .inl ⟨j, by omega, rfl⟩
    · rw [if_neg hk, List.append_nil]
      refine ⟨h1, fun x => ?_⟩
      rw [h2]
      have h5 : 0 < m ∧ d[m]! = d[m - 1]! := by
        unfold keeps at hk
        have : ¬ (m = 0 ∨ d[m]! ≠ d[m - 1]!) := fun h => hk (decide_eq_true h)
        exact ⟨by omega, Classical.not_not.1 (fun h => this (.inr h))⟩
      constructor
      · rintro ⟨j, hj, rfl⟩
        exact ⟨j, by omega, rfl⟩
      · rintro ⟨j, hj, rfl⟩
        by_cases e : j = m
        · subst e; exact ⟨j - 1, by omega, h5.2⟩
        · exact ⟨j, by omega, rfl⟩
theorem sorted_srt (l : List ByteArray) : (Lib.compact (sorted l)).map bs = srt l := by
  have hp : (sorted l).Pairwise (fun a b => a ≤ b) := by
    have := List.pairwise_mergeSort (le := fun x y : List UInt8 => decide (x ≤ y)) (fun a b c h1 h2 => by simp only [decide_eq_true_eq] at *; exact List.le_trans h1 h2) (fun a b => by simp only [Bool.or_eq_true, decide_eq_true_eq]; exact List.le_total a b) (l.map (·.data.toList))
    exact this.imp (fun h => by simpa using h)
  have hs : ∀ i j, i ≤ j → j < (sorted l).toArray.size → (sorted l).toArray[i]! ≤ (sorted l).toArray[j]! := by
    intro i j hij hj
    have hj' : j < (sorted l).length := by simpa using hj
    rw [getElem!_pos _ i (by simp; omega), getElem!_pos _ j hj]
    simp only [List.getElem_toArray]
    by_cases e : i = j
    · subst e; exact List.le_refl _
    · exact List.pairwise_iff_getElem.1 hp i j (by omega) hj' (by omega)
  obtain ⟨h1, h2⟩ := compact_asc (sorted l).toArray hs (sorted l).length (by simp)
  obtain ⟨h3, h4, _⟩ := fold_ins l [] List.Pairwise.nil
  refine asc_unique _ _ ?_ h3 (fun x => ?_)
  · refine List.pairwise_map.2 (h1.imp (fun h => ?_))
    unfold lt bs
    simpa using h
  · show _ ↔ x ∈ l.foldl (fun acc s => ins s acc) []
    rw [h4]
    simp only [List.mem_map, List.not_mem_nil, false_or]
    constructor
    · rintro ⟨k, hk, rfl⟩
      obtain ⟨j, hj, rfl⟩ := (h2 k).1 hk
      rw [getElem!_pos _ j (by simpa using hj)]
      have hm : (sorted l)[j] ∈ sorted l := List.getElem_mem _
      have hm2 := (List.mergeSort_perm (l.map (·.data.toList)) (fun x y => decide (x ≤ y))).mem_iff.1 hm
      obtain ⟨s, hs1, hs2⟩ := List.mem_map.1 hm2
      simp only [List.getElem_toArray]
      rw [← hs2]
      show bs s.data.toList ∈ l
      rw [bs_self]
      exact hs1
    · intro hx
      refine ⟨x.data.toList, (h2 _).2 ?_, bs_self x⟩
      have hm : x.data.toList ∈ sorted l := (List.mergeSort_perm (l.map (·.data.toList)) (fun x y => decide (x ≤ y))).mem_iff.2 (List.mem_map.2 ⟨x, hx, rfl⟩)
      obtain ⟨j, hj, e⟩ := List.mem_iff_getElem.1 hm
      exact ⟨j, hj, by rw [getElem!_pos _ j (by simpa using hj)]; simp [e]⟩
theorem tl (s : ByteArray) : s.toList = s.data.toList := Lib.toList_data s
theorem drop_at (out : List ByteArray) (j : Nat) (h : j < out.length) : out.drop j = out.getD j ByteArray.empty :: out.drop (j + 1) := by
  rw [List.drop_eq_getElem_cons h, List.getD_eq_getElem?_getD, List.getElem?_eq_getElem h]
  rfl
theorem take_at (out : List ByteArray) (j : Nat) (h : j < out.length) : out.take (j + 1) = out.take j ++ [out.getD j ByteArray.empty] := by
  rw [List.take_succ_eq_append_getElem h, List.getD_eq_getElem?_getD, List.getElem?_eq_getElem h]
  rfl
/-- One round of the reference's: the place is found and the name is put there. -/
theorem put_ev (x0 out : List ByteArray) (hx : x0.length ≤ 1048576) (ho : out.length ≤ 1048576) (i : Nat) (hi : i < x0.length) (r : List ByteArray) : ∀ (m j : Nat), j + m = out.length →
    Ev (fun k => spec_SortNames.l0 k x0 (out.take j ++ ins (x0.getD i ByteArray.empty) (out.drop j)) ((i + 1 : Nat) : Int)) r → Ev (fun k => spec_SortNames.l1 k x0 out (i : Int) (j : Int)) r := by
  intro m
  induction m with
  | zero =>
    intro j hj h
    refine Ev.up ?_
    have hd : out.drop j = [] := List.drop_of_length_le (by omega)
    simp only [spec_SortNames.l1, Int.toNat_natCast, w1' hi hx, rdOf_str]
    refine Ev.neg (by omega) (Ev.none_bind (Ev.pos (by omega) (Ev.pos (by omega) (Ev.none_bind (Ev.pos (by simp; omega) (Ev.none_bind (Ev.none_bind (Ev.pos (by omega) (Ev.pos (by omega) (Ev.pos (by simp; omega) (Ev.none_bind (Ev.pos (by simp; omega) ?_))))))))))))
    rw [hd] at h ⊢
    simpa [ins] using h
  | succ m ih =>
    intro j hj h
    refine Ev.up ?_
    have hjl : j < out.length := by omega
    have hd := drop_at out j hjl
    simp only [spec_SortNames.l1, Int.toNat_natCast, w1' hi hx, w1' hjl ho, rdOf_str, tl, bytesLess_eq, decide_eq_true_eq]
    refine Ev.pos (by omega) (Ev.pos (by omega) (Ev.pos (by omega) (Ev.pos (by omega) ?_)))
    rw [hd] at h
    by_cases h1 : lt (out.getD j ByteArray.empty) (x0.getD i ByteArray.empty)
    · refine Ev.pos h1 (ih (j + 1) (by omega) ?_)
      rw [show ins (x0.getD i ByteArray.empty) (out.getD j ByteArray.empty :: out.drop (j + 1)) = out.getD j ByteArray.empty :: ins (x0.getD i ByteArray.empty) (out.drop (j + 1)) from by rw [ins, if_pos h1]] at h
      rw [take_at out j hjl, List.append_assoc]
      exact h
    · refine Ev.neg h1 ?_
      by_cases h2 : out.getD j ByteArray.empty = x0.getD i ByteArray.empty
      · refine Ev.pos (congrArg (fun s : ByteArray => s.data.toList) h2) ?_
        rw [show ins (x0.getD i ByteArray.empty) (out.getD j ByteArray.empty :: out.drop (j + 1)) = out.getD j ByteArray.empty :: out.drop (j + 1) from by rw [ins, if_neg h1, if_pos h2], ← hd, List.take_append_drop] at h
        exact h
      · refine Ev.neg (fun e => h2 (Sm.toList_inj e)) ?_
        rw [show ins (x0.getD i ByteArray.empty) (out.getD j ByteArray.empty :: out.drop (j + 1)) = x0.getD i ByteArray.empty :: out.getD j ByteArray.empty :: out.drop (j + 1) from by rw [ins, if_neg h1, if_neg h2], ← hd] at h
        refine Ev.none_bind (Ev.pos (by omega) (Ev.none_bind (Ev.pos (by simp; omega) (Ev.none_bind (Ev.none_bind (Ev.pos (by simp; omega) (Ev.none_bind (Ev.pos (by simp; omega) ?_))))))))
        simpa using h
theorem spec_SortNames_ev (x0 : List ByteArray) (hx : x0.length ≤ 1048576) : Ev (fun k => spec_SortNames.f k x0) (srt x0) := by
  suffices h : ∀ (m i : Nat) (acc : List ByteArray), i + m = x0.length → acc.Pairwise lt → acc.length ≤ i → Ev (fun k => spec_SortNames.l0 k x0 acc (i : Int)) ((x0.drop i).foldl (fun acc s => ins s acc) acc) by
    simp only [spec_SortNames.f]
    simpa [srt] using h x0.length 0 [] (by omega) List.Pairwise.nil (Nat.le_refl _)
  intro m
  induction m with
  | zero =>
    intro i acc hi ha hl
    refine Ev.up ?_
    simp only [spec_SortNames.l0]
    rw [List.drop_of_length_le (by omega)]
    exact Ev.neg (by omega) (Ev.now _)
  | succ m ih =>
    intro i acc hi ha hl
    refine Ev.up ?_
    simp only [spec_SortNames.l0]
    refine Ev.pos (by omega) ?_
    have h1 := ih (i + 1) (ins (x0.getD i ByteArray.empty) acc) (by omega) (asc_ins _ _ ha) (by have := len_ins (x0.getD i ByteArray.empty) acc; omega)
    rw [drop_at x0 i (by omega), List.foldl_cons]
    have h2 := put_ev x0 acc (by omega) (by omega) i (by omega) _ acc.length 0 (by omega) (by simpa using h1)
    simpa using h2

end Go.Proofs.Ytochgledinnlhaa.Pu
end
section
namespace Go.Proofs.Ytochgledinnlhaa.Pu
open Go.RowKit Go.Proofs.YtochgledinnlhaaW.PrintWords Go.Proofs.YtochgledinnlhaaW.PrintLast Go.Proofs.YtochgledinnlhaaW.PrintMore Go.Proofs.Ytochgledinnlhaa.Pl Go.Proofs.Ytochgledinnlhaa.Ext
set_option linter.unusedVariables false
set_option linter.unusedSimpArgs false
set_option maxHeartbeats 8000000 in
set_option maxRecDepth 100000 in
theorem FnExactSortNames_walk (x0 : List ByteArray) (y0 : List ByteArray) (r : List ByteArray) (left0 : Int) (m0 : Int) (m1 : Int)
    (p0 : ∃ k, laws_szStringS.f k (x0) 1048576 = some left0)
    (p1 : decide (left0 < 0) = false)
    (p2 : ∃ k, laws_toStringS.f k (x0) = some (y0))
    (p3 : ∃ k, spec_SortNames.f k (y0) = some (r))
    (p4 : ∃ k, impl_SortNames.f k (y0) = some (r))
    (p5 : ∃ k, laws_eqStringS.f k (r) (r) = some true)
    (p6 : ∃ k, laws_eqStringS.f k (y0) (y0) = some true)
    (p7 : y0.length ≤ 1048576)
    (p8 : (1 + (y0.length : Nat) : Int) ≤ 4611686018427387000)
    (p9 : m0 = 1 + (y0.length : Nat))
    (p10 : decide (m0 < 0) = false)
    (p11 : r.length ≤ 1048576)
    (p12 : (1 + (r.length : Nat) : Int) ≤ 4611686018427387000)
    (p13 : m1 = 1 + (r.length : Nat))
    (p14 : decide (m1 < 0) = false)
    (p15 : ∃ k, laws_heldStringS.f k (mtS (1) r.length) 1 = some m1)
    (W : World) {A0 : Option Addr} {c0 : Nat} (hHA0 : Kd.C Kd.string W A0 x0.length x0) (kHA0 : x0.length ≤ c0) :
    Calls Try.prog 4 #[.slice A0 x0.length c0] W fun e w' => e = .returned (.bool true) ∧ Below W.heap.size W w' := by
  have HA0 := Aside0.mk hHA0
  clear hHA0
  have Hp9 := Aside0.mk p9
  clear p9
  have Hp13 := Aside0.mk p13
  clear p13
  have HB := Aside0.mk (Below.refl W.heap.size W)
  have HZ := Aside0.mk (Nat.le_refl W.heap.size)
  have HZ0 := Aside0.mk (Nat.le_refl W.heap.size)
  go_enter Try.func4, Try.ntmps4
  go_wp2_with (first
    | ((with_reducible refine gate_callee (f := 6) rfl ?_)
       refine goesL_ (some 13) rfl rfl Try.func6 (by kernel_rfl) rfl #[.slice A0 x0.length c0, .int .i64 1048576] rfl (by (try simp only [List.map_toArray, List.map_cons, List.map_nil]); first | done | rfl) ?_
       have hh := p0
       obtain ⟨kq2, eq2⟩ := hh
       (with_reducible refine (laws_szStringS.calls kq2 _ _ (x0) 1048576 left0 _ (Kd.C_below HA0.out HB.out) kHA0 eq2).mono ?_)
       rintro e w1 ⟨rfl, hb⟩
       (try replace hb := Drawn0.below hb)
       refine ⟨_, rfl, ?_⟩
       have n1 := below_step HB.out hb
       have n2 := Nat.le_trans HZ.out hb.size
       clear HB HZ
       have HB := Aside0.mk n1
       have HZ := Aside0.mk n2
       clear n1 n2
       clear hb)
    | ((with_reducible refine gate_callee (f := 8) rfl ?_)
       refine goesL_ (some 17) rfl rfl Try.func8 (by kernel_rfl) rfl #[.slice A0 x0.length c0] rfl (by (try simp only [List.map_toArray, List.map_cons, List.map_nil]); first | done | rfl) ?_
       have hh := p2
       obtain ⟨kq4, eq4⟩ := hh
       (with_reducible refine (laws_toStringS.calls kq4 _ _ (x0) y0 _ (Kd.C_below HA0.out HB.out) kHA0 eq4).mono ?_)
       rintro e w3 ⟨u0, rfl, ho0, hb⟩
       refine ⟨_, rfl, ?_⟩
       obtain ⟨n6, en6⟩ : ∃ n, n = w1.heap.size := ⟨_, rfl⟩
       obtain ⟨n7, en7⟩ : ∃ n, n = w3.heap.size := ⟨_, rfl⟩
       have En6 := Aside0.mk en6; have En7 := Aside0.mk en7
       clear en6 en7
       have Hq5 := Aside0.mk (Ow.R_iv (base := W.heap.size) ho0 En6.out En7.out (by have := HZ.out; have := En6.out; omega))
       clear ho0
       obtain ⟨Aq5, cq5, ea⟩ := Kd.R_slice Hq5.out
       subst ea
       have Ln6 := Aside0.mk (show W.heap.size ≤ n6 ∧ n6 ≤ n7 by have := HZ.out; have := hb.size; have := En6.out; have := En7.out; omega)
       have n1 := below_step HB.out hb
       have n2 := Nat.le_trans HZ.out hb.size
       clear HB HZ
       have HB := Aside0.mk n1
       have HZ := Aside0.mk n2
       clear n1 n2
       replace HZ := Aside0.mk (show n7 ≤ w3.heap.size by have := En7.out; omega)
       clear hb)
    | ((with_reducible refine gate_callee (f := 13) rfl ?_)
       refine goesL_ (some 18) rfl rfl Try.func13 (by kernel_rfl) rfl #[.slice Aq5 y0.length cq5] rfl (by (try simp only [List.map_toArray, List.map_cons, List.map_nil]); first | done | rfl) ?_
       have hh := p3
       obtain ⟨kq9, eq9⟩ := hh
       (with_reducible refine (spec_SortNames.calls kq9 _ _ (y0) r _ (Kd.R_reads' Hq5.out).2.2 (Kd.R_reads' Hq5.out).2.1 eq9).mono ?_)
       rintro e w8 ⟨u0, rfl, ho0, hb⟩
       refine ⟨_, rfl, ?_⟩
       obtain ⟨n11, en11⟩ : ∃ n, n = w3.heap.size := ⟨_, rfl⟩
       obtain ⟨n12, en12⟩ : ∃ n, n = w8.heap.size := ⟨_, rfl⟩
       have En11 := Aside0.mk en11; have En12 := Aside0.mk en12
       clear en11 en12
       have Hq10 := Aside0.mk (Ow.R_iv (base := W.heap.size) ho0 En11.out En12.out (by have := HZ.out; have := Ln6.out; have := En11.out; omega))
       clear ho0
       obtain ⟨Aq10, cq10, ea⟩ := Kd.R_slice Hq10.out
       subst ea
       have Ln11 := Aside0.mk (show n7 ≤ n11 ∧ n11 ≤ n12 by have := HZ.out; have := hb.size; have := En11.out; have := En12.out; omega)
       have n1 := Kd.R_below Hq5.out hb
       have n2 := below_step HB.out hb
       have n3 := Nat.le_trans HZ.out hb.size
       clear Hq5 HB HZ
       have Hq5 := Aside0.mk n1
       have HB := Aside0.mk n2
       have HZ := Aside0.mk n3
       clear n1 n2 n3
       replace HZ := Aside0.mk (show n12 ≤ w8.heap.size by have := En12.out; omega)
       clear hb)
    | ((with_reducible refine gate_callee (f := 8) rfl ?_)
       refine goesL_ (some 20) rfl rfl Try.func8 (by kernel_rfl) rfl #[.slice A0 x0.length c0] rfl (by (try simp only [List.map_toArray, List.map_cons, List.map_nil]); first | done | rfl) ?_
       have hh := p2
       obtain ⟨kq14, eq14⟩ := hh
       (with_reducible refine (laws_toStringS.calls kq14 _ _ (x0) y0 _ (Kd.C_below HA0.out HB.out) kHA0 eq14).mono ?_)
       rintro e w13 ⟨u0, rfl, ho0, hb⟩
       refine ⟨_, rfl, ?_⟩
       obtain ⟨n16, en16⟩ : ∃ n, n = w8.heap.size := ⟨_, rfl⟩
       obtain ⟨n17, en17⟩ : ∃ n, n = w13.heap.size := ⟨_, rfl⟩
       have En16 := Aside0.mk en16; have En17 := Aside0.mk en17
       clear en16 en17
       have Hq15 := Aside0.mk (Ow.R_iv (base := W.heap.size) ho0 En16.out En17.out (by have := HZ.out; have := Ln6.out; have := Ln11.out; have := En16.out; omega))
       clear ho0
       obtain ⟨Aq15, cq15, ea⟩ := Kd.R_slice Hq15.out
       subst ea
       have Ln16 := Aside0.mk (show n12 ≤ n16 ∧ n16 ≤ n17 by have := HZ.out; have := hb.size; have := En16.out; have := En17.out; omega)
       have n1 := Kd.R_below Hq10.out hb
       have n2 := below_step HB.out hb
       have n3 := Nat.le_trans HZ.out hb.size
       clear Hq10 HB HZ
       have Hq10 := Aside0.mk n1
       have HB := Aside0.mk n2
       have HZ := Aside0.mk n3
       clear n1 n2 n3
       replace HZ := Aside0.mk (show n17 ≤ w13.heap.size by have := En17.out; omega)
       clear hb)
    | ((with_reducible refine gate_callee (f := 14) rfl ?_)
       refine goesL_ (some 22) rfl rfl Try.func14 (by kernel_rfl) rfl #[.slice Aq15 y0.length cq15] rfl (by (try simp only [List.map_toArray, List.map_cons, List.map_nil]); first | done | rfl) ?_
       have hh := p4
       obtain ⟨kq19, eq19⟩ := hh
       (with_reducible refine (impl_SortNames.calls kq19 _ _ (y0) r _ (Kd.R_reads' Hq15.out).2.2 (Kd.R_reads' Hq15.out).2.1 eq19).mono ?_)
       rintro e w18 ⟨u0, rfl, ho0, hb⟩
       refine ⟨_, rfl, ?_⟩
       obtain ⟨n21, en21⟩ : ∃ n, n = w13.heap.size := ⟨_, rfl⟩
       obtain ⟨n22, en22⟩ : ∃ n, n = w18.heap.size := ⟨_, rfl⟩
       have En21 := Aside0.mk en21; have En22 := Aside0.mk en22
       clear en21 en22
       have Hq20 := Aside0.mk (Ow.R_iv (base := W.heap.size) ho0 En21.out En22.out (by have := HZ.out; have := Ln6.out; have := Ln11.out; have := Ln16.out; have := En21.out; omega))
       clear ho0
       obtain ⟨Aq20, cq20, ea⟩ := Kd.R_slice Hq20.out
       subst ea
       have Ln21 := Aside0.mk (show n17 ≤ n21 ∧ n21 ≤ n22 by have := HZ.out; have := hb.size; have := En21.out; have := En22.out; omega)
       have n1 := Kd.R_below Hq10.out hb
       have n2 := Kd.R_below Hq15.out hb
       have n3 := below_step HB.out hb
       have n4 := Nat.le_trans HZ.out hb.size
       clear Hq10 Hq15 HB HZ
       have Hq10 := Aside0.mk n1
       have Hq15 := Aside0.mk n2
       have HB := Aside0.mk n3
       have HZ := Aside0.mk n4
       clear n1 n2 n3 n4
       replace HZ := Aside0.mk (show n22 ≤ w18.heap.size by have := En22.out; omega)
       clear hb)
    | ((with_reducible refine gate_callee (f := 10) rfl ?_)
       refine goesL_ (some 25) rfl rfl Try.func10 (by kernel_rfl) rfl #[.slice Aq20 r.length cq20, .slice Aq10 r.length cq10] rfl (by (try simp only [List.map_toArray, List.map_cons, List.map_nil]); first | done | rfl) ?_
       have hh := p5
       obtain ⟨kq24, eq24⟩ := hh
       (with_reducible refine (laws_eqStringS.calls kq24 _ _ (r) _ _ (r) true _ (Kd.R_reads' Hq20.out).2.2 (Kd.R_reads' Hq20.out).2.1 (Kd.R_reads' Hq10.out).2.2 (Kd.R_reads' Hq10.out).2.1 eq24).mono ?_)
       rintro e w23 ⟨rfl, hb⟩
       (try replace hb := Drawn0.below hb)
       refine ⟨_, rfl, ?_⟩
       have n1 := Kd.R_below Hq10.out hb
       have n2 := Kd.R_below Hq15.out hb
       have n3 := Kd.R_below Hq20.out hb
       have n4 := below_step HB.out hb
       have n5 := Nat.le_trans HZ.out hb.size
       clear Hq10 Hq15 Hq20 HB HZ
       have Hq10 := Aside0.mk n1
       have Hq15 := Aside0.mk n2
       have Hq20 := Aside0.mk n3
       have HB := Aside0.mk n4
       have HZ := Aside0.mk n5
       clear n1 n2 n3 n4 n5
       clear hb)
    | ((with_reducible refine gate_callee (f := 8) rfl ?_)
       refine goesL_ (some 29) rfl rfl Try.func8 (by kernel_rfl) rfl #[.slice A0 x0.length c0] rfl (by (try simp only [List.map_toArray, List.map_cons, List.map_nil]); first | done | rfl) ?_
       have hh := p2
       obtain ⟨kq26, eq26⟩ := hh
       (with_reducible refine (laws_toStringS.calls kq26 _ _ (x0) y0 _ (Kd.C_below HA0.out HB.out) kHA0 eq26).mono ?_)
       rintro e w25 ⟨u0, rfl, ho0, hb⟩
       refine ⟨_, rfl, ?_⟩
       obtain ⟨n28, en28⟩ : ∃ n, n = w23.heap.size := ⟨_, rfl⟩
       obtain ⟨n29, en29⟩ : ∃ n, n = w25.heap.size := ⟨_, rfl⟩
       have En28 := Aside0.mk en28; have En29 := Aside0.mk en29
       clear en28 en29
       have Hq27 := Aside0.mk (Ow.R_iv (base := W.heap.size) ho0 En28.out En29.out (by have := HZ.out; have := Ln6.out; have := Ln11.out; have := Ln16.out; have := Ln21.out; have := En28.out; omega))
       clear ho0
       obtain ⟨Aq27, cq27, ea⟩ := Kd.R_slice Hq27.out
       subst ea
       have Ln28 := Aside0.mk (show n22 ≤ n28 ∧ n28 ≤ n29 by have := HZ.out; have := hb.size; have := En28.out; have := En29.out; omega)
       have n1 := Kd.R_below Hq10.out hb
       have n2 := Kd.R_below Hq15.out hb
       have n3 := Kd.R_below Hq20.out hb
       have n4 := below_step HB.out hb
       have n5 := Nat.le_trans HZ.out hb.size
       clear Hq10 Hq15 Hq20 HB HZ
       have Hq10 := Aside0.mk n1
       have Hq15 := Aside0.mk n2
       have Hq20 := Aside0.mk n3
       have HB := Aside0.mk n4
       have HZ := Aside0.mk n5
       clear n1 n2 n3 n4 n5
       replace HZ := Aside0.mk (show n29 ≤ w25.heap.size by have := En29.out; omega)
       clear hb)
    | ((with_reducible refine gate_callee (f := 10) rfl ?_)
       refine goesL_ (some 30) rfl rfl Try.func10 (by kernel_rfl) rfl #[.slice Aq15 y0.length cq15, .slice Aq27 y0.length cq27] rfl (by (try simp only [List.map_toArray, List.map_cons, List.map_nil]); first | done | rfl) ?_
       have hh := p6
       obtain ⟨kq31, eq31⟩ := hh
       (with_reducible refine (laws_eqStringS.calls kq31 _ _ (y0) _ _ (y0) true _ (Kd.R_reads' Hq15.out).2.2 (Kd.R_reads' Hq15.out).2.1 (Kd.R_reads' Hq27.out).2.2 (Kd.R_reads' Hq27.out).2.1 eq31).mono ?_)
       rintro e w30 ⟨rfl, hb⟩
       (try replace hb := Drawn0.below hb)
       refine ⟨_, rfl, ?_⟩
       have n1 := Kd.R_below Hq10.out hb
       have n2 := Kd.R_below Hq15.out hb
       have n3 := Kd.R_below Hq20.out hb
       have n4 := Kd.R_below Hq27.out hb
       have n5 := below_step HB.out hb
       have n6 := Nat.le_trans HZ.out hb.size
       clear Hq10 Hq15 Hq20 Hq27 HB HZ
       have Hq10 := Aside0.mk n1
       have Hq15 := Aside0.mk n2
       have Hq20 := Aside0.mk n3
       have Hq27 := Aside0.mk n4
       have HB := Aside0.mk n5
       have HZ := Aside0.mk n6
       clear n1 n2 n3 n4 n5 n6
       clear hb)
    | ((with_reducible refine gate_callee (f := 11) rfl ?_)
       refine goesL_ (some 34) rfl rfl Try.func11 (by kernel_rfl) rfl #[.slice Aq15 y0.length cq15, .int .i64 1] rfl (by (try simp only [List.map_toArray, List.map_cons, List.map_nil]); first | done | rfl) ?_
       (with_reducible refine (markStringS_own y0 p7 1 (by first | decide | (have := HZ.out; omega)) (Int.le_trans p8 (by decide)) _ (fun k => some k = (.slice Aq15 y0.length cq15 : Value).ownBlock ∧ True ∧ n16 ≤ k ∧ k < n17) W _ HB.out (Kd.R_mono (Kd.R_tight2 rfl Hq15.out) (fun k hk => hk))).mono ?_)
       rintro e w32 ⟨he, hr0, hb2, hk⟩
       obtain rfl : e = .returned (.int .i64 m0) := by rw [he, Hp9.out]
       clear he
       refine ⟨_, rfl, ?_⟩
       clear Hq15
       have n1 := Kd.R_kept Hq10.out hk (fun k hk h1 => by have := Ln6.out; have := Ln11.out; have := Ln16.out; have := Ln21.out; have := Ln28.out; have := hk.2; have := h1.2; omega)
       have n2 := Kd.R_kept Hq20.out hk (fun k hk h1 => by have := Ln6.out; have := Ln11.out; have := Ln16.out; have := Ln21.out; have := Ln28.out; have := hk.2; have := h1.2; omega)
       have n3 := Nat.le_trans HZ.out hk.1
       clear Hq10 Hq20 HZ
       have Hq10 := Aside0.mk n1
       have Hq20 := Aside0.mk n2
       have HZ := Aside0.mk n3
       clear n1 n2 n3
       have n1 := hb2; clear HB; have HB := Aside0.mk n1; clear n1
       have Hq15 := Aside0.mk hr0
       clear hb2 hk hr0)
    | (go_at_call 10
       have hh := p5
       obtain ⟨kq35, eq35⟩ := hh
       (with_reducible refine (laws_eqStringS.calls kq35 _ _ (r) _ _ (r) true _ (Kd.R_reads' Hq20.out).2.2 (Kd.R_reads' Hq20.out).2.1 (Kd.R_reads' Hq10.out).2.2 (Kd.R_reads' Hq10.out).2.1 eq35).mono ?_)
       rintro e w34 ⟨rfl, hb⟩
       (try replace hb := Drawn0.below hb)
       have n1 := Kd.R_below Hq10.out hb
       have n2 := Kd.R_below Hq20.out hb
       have n3 := below_step HB.out hb
       have n4 := Nat.le_trans HZ.out hb.size
       clear Hq10 Hq20 HB HZ
       have Hq10 := Aside0.mk n1
       have Hq20 := Aside0.mk n2
       have HB := Aside0.mk n3
       have HZ := Aside0.mk n4
       clear n1 n2 n3 n4
       clear hb)
    | ((with_reducible refine gate_callee (f := 11) rfl ?_)
       refine goesL_ (some 45) rfl rfl Try.func11 (by kernel_rfl) rfl #[.slice Aq20 r.length cq20, .int .i64 1] rfl (by (try simp only [List.map_toArray, List.map_cons, List.map_nil]); first | done | rfl) ?_
       (with_reducible refine (markStringS_own r p11 1 (by first | decide | (have := HZ.out; omega)) (Int.le_trans p12 (by decide)) _ (fun k => some k = (.slice Aq20 r.length cq20 : Value).ownBlock ∧ True ∧ n21 ≤ k ∧ k < n22) W _ HB.out (Kd.R_mono (Kd.R_tight2 rfl Hq20.out) (fun k hk => hk))).mono ?_)
       rintro e w36 ⟨he, hr0, hb2, hk⟩
       obtain rfl : e = .returned (.int .i64 m1) := by rw [he, Hp13.out]
       clear he
       refine ⟨_, rfl, ?_⟩
       clear Hq20
       have n1 := Kd.R_kept Hq10.out hk (fun k hk h1 => by have := Ln6.out; have := Ln11.out; have := Ln16.out; have := Ln21.out; have := Ln28.out; have := hk.2; have := h1.2; omega)
       have n2 := Nat.le_trans HZ.out hk.1
       clear Hq10 HZ
       have Hq10 := Aside0.mk n1
       have HZ := Aside0.mk n2
       clear n1 n2
       have n1 := hb2; clear HB; have HB := Aside0.mk n1; clear n1
       have Hq20 := Aside0.mk hr0
       clear hb2 hk hr0)
    | ((with_reducible refine gate_callee (f := 12) rfl ?_)
       refine goesL_ (some 48) rfl rfl Try.func12 (by kernel_rfl) rfl #[.slice Aq20 r.length cq20, .int .i64 1] rfl (by (try simp only [List.map_toArray, List.map_cons, List.map_nil]); first | done | rfl) ?_
       have hh := p15
       obtain ⟨kq39, eq39⟩ := hh
       refine calls_of_args (args' := #[.slice Aq20 (mtS (1) r.length).length cq20, .int .i64 1]) (by simp only [mtS_length]) ?_
       (with_reducible refine (laws_heldStringS.calls kq39 _ _ (mtS (1) r.length) 1 m1 _ (by first | exact (Kd.R_reads' Hq20.out).2.2 | (rw [mtS_length]; exact (Kd.R_reads' Hq20.out).2.2)) (by first | exact (Kd.R_reads' Hq20.out).2.1 | (rw [mtS_length]; exact (Kd.R_reads' Hq20.out).2.1)) eq39).mono ?_)
       rintro e w38 ⟨rfl, hb⟩
       (try replace hb := Drawn0.below hb)
       refine ⟨_, rfl, ?_⟩
       have n1 := Kd.R_below Hq10.out hb
       have n2 := Kd.R_below Hq20.out hb
       have n3 := below_step HB.out hb
       have n4 := Nat.le_trans HZ.out hb.size
       clear Hq10 Hq20 HB HZ
       have Hq10 := Aside0.mk n1
       have Hq20 := Aside0.mk n2
       have HB := Aside0.mk n3
       have HZ := Aside0.mk n4
       clear n1 n2 n3 n4
       clear hb)
    | ((with_reducible refine gate_callee (f := 8) rfl ?_)
       refine goesL_ (some 55) rfl rfl Try.func8 (by kernel_rfl) rfl #[.slice A0 x0.length c0] rfl (by (try simp only [List.map_toArray, List.map_cons, List.map_nil]); first | done | rfl) ?_
       have hh := p2
       obtain ⟨kq41, eq41⟩ := hh
       (with_reducible refine (laws_toStringS.calls kq41 _ _ (x0) y0 _ (Kd.C_below HA0.out HB.out) kHA0 eq41).mono ?_)
       rintro e w40 ⟨u0, rfl, ho0, hb⟩
       refine ⟨_, rfl, ?_⟩
       obtain ⟨n43, en43⟩ : ∃ n, n = w38.heap.size := ⟨_, rfl⟩
       obtain ⟨n44, en44⟩ : ∃ n, n = w40.heap.size := ⟨_, rfl⟩
       have En43 := Aside0.mk en43; have En44 := Aside0.mk en44
       clear en43 en44
       have Hq42 := Aside0.mk (Ow.R_iv (base := W.heap.size) ho0 En43.out En44.out (by have := HZ.out; have := Ln6.out; have := Ln11.out; have := Ln16.out; have := Ln21.out; have := Ln28.out; have := En43.out; omega))
       clear ho0
       obtain ⟨Aq42, cq42, ea⟩ := Kd.R_slice Hq42.out
       subst ea
       have Ln43 := Aside0.mk (show n29 ≤ n43 ∧ n43 ≤ n44 by have := HZ.out; have := hb.size; have := En43.out; have := En44.out; omega)
       have n1 := Kd.R_below Hq10.out hb
       have n2 := Kd.R_below Hq20.out hb
       have n3 := below_step HB.out hb
       have n4 := Nat.le_trans HZ.out hb.size
       clear Hq10 Hq20 HB HZ
       have Hq10 := Aside0.mk n1
       have Hq20 := Aside0.mk n2
       have HB := Aside0.mk n3
       have HZ := Aside0.mk n4
       clear n1 n2 n3 n4
       replace HZ := Aside0.mk (show n44 ≤ w40.heap.size by have := En44.out; omega)
       clear hb)
    | ((with_reducible refine gate_callee (f := 14) rfl ?_)
       refine goesL_ (some 56) rfl rfl Try.func14 (by kernel_rfl) rfl #[.slice Aq42 y0.length cq42] rfl (by (try simp only [List.map_toArray, List.map_cons, List.map_nil]); first | done | rfl) ?_
       have hh := p4
       obtain ⟨kq46, eq46⟩ := hh
       (with_reducible refine (impl_SortNames.calls kq46 _ _ (y0) r _ (Kd.R_reads' Hq42.out).2.2 (Kd.R_reads' Hq42.out).2.1 eq46).mono ?_)
       rintro e w45 ⟨u0, rfl, ho0, hb⟩
       refine ⟨_, rfl, ?_⟩
       obtain ⟨n48, en48⟩ : ∃ n, n = w40.heap.size := ⟨_, rfl⟩
       obtain ⟨n49, en49⟩ : ∃ n, n = w45.heap.size := ⟨_, rfl⟩
       have En48 := Aside0.mk en48; have En49 := Aside0.mk en49
       clear en48 en49
       have Hq47 := Aside0.mk (Ow.R_iv (base := W.heap.size) ho0 En48.out En49.out (by have := HZ.out; have := Ln6.out; have := Ln11.out; have := Ln16.out; have := Ln21.out; have := Ln28.out; have := Ln43.out; have := En48.out; omega))
       clear ho0
       obtain ⟨Aq47, cq47, ea⟩ := Kd.R_slice Hq47.out
       subst ea
       have Ln48 := Aside0.mk (show n44 ≤ n48 ∧ n48 ≤ n49 by have := HZ.out; have := hb.size; have := En48.out; have := En49.out; omega)
       have n1 := Kd.R_below Hq10.out hb
       have n2 := Kd.R_below Hq20.out hb
       have n3 := Kd.R_below Hq42.out hb
       have n4 := below_step HB.out hb
       have n5 := Nat.le_trans HZ.out hb.size
       clear Hq10 Hq20 Hq42 HB HZ
       have Hq10 := Aside0.mk n1
       have Hq20 := Aside0.mk n2
       have Hq42 := Aside0.mk n3
       have HB := Aside0.mk n4
       have HZ := Aside0.mk n5
       clear n1 n2 n3 n4 n5
       replace HZ := Aside0.mk (show n49 ≤ w45.heap.size by have := En49.out; omega)
       clear hb)
    | ((with_reducible refine gate_callee (f := 10) rfl ?_)
       refine goesL_ (some 59) rfl rfl Try.func10 (by kernel_rfl) rfl #[.slice Aq47 r.length cq47, .slice Aq10 r.length cq10] rfl (by (try simp only [List.map_toArray, List.map_cons, List.map_nil]); first | done | rfl) ?_
       have hh := p5
       obtain ⟨kq51, eq51⟩ := hh
       (with_reducible refine (laws_eqStringS.calls kq51 _ _ (r) _ _ (r) true _ (Kd.R_reads' Hq47.out).2.2 (Kd.R_reads' Hq47.out).2.1 (Kd.R_reads' Hq10.out).2.2 (Kd.R_reads' Hq10.out).2.1 eq51).mono ?_)
       rintro e w50 ⟨rfl, hb⟩
       (try replace hb := Drawn0.below hb)
       refine ⟨_, rfl, ?_⟩
       have n1 := Kd.R_below Hq10.out hb
       have n2 := Kd.R_below Hq20.out hb
       have n3 := Kd.R_below Hq47.out hb
       have n4 := below_step HB.out hb
       have n5 := Nat.le_trans HZ.out hb.size
       clear Hq10 Hq20 Hq47 HB HZ
       have Hq10 := Aside0.mk n1
       have Hq20 := Aside0.mk n2
       have Hq47 := Aside0.mk n3
       have HB := Aside0.mk n4
       have HZ := Aside0.mk n5
       clear n1 n2 n3 n4 n5
       clear hb)
    | ((with_reducible refine gate_callee (f := 12) rfl ?_)
       refine goesL_ (some 63) rfl rfl Try.func12 (by kernel_rfl) rfl #[.slice Aq20 r.length cq20, .int .i64 1] rfl (by (try simp only [List.map_toArray, List.map_cons, List.map_nil]); first | done | rfl) ?_
       have hh := p15
       obtain ⟨kq53, eq53⟩ := hh
       refine calls_of_args (args' := #[.slice Aq20 (mtS (1) r.length).length cq20, .int .i64 1]) (by simp only [mtS_length]) ?_
       (with_reducible refine (laws_heldStringS.calls kq53 _ _ (mtS (1) r.length) 1 m1 _ (by first | exact (Kd.R_reads' Hq20.out).2.2 | (rw [mtS_length]; exact (Kd.R_reads' Hq20.out).2.2)) (by first | exact (Kd.R_reads' Hq20.out).2.1 | (rw [mtS_length]; exact (Kd.R_reads' Hq20.out).2.1)) eq53).mono ?_)
       rintro e w52 ⟨rfl, hb⟩
       (try replace hb := Drawn0.below hb)
       refine ⟨_, rfl, ?_⟩
       have n1 := Kd.R_below Hq20.out hb
       have n2 := below_step HB.out hb
       have n3 := Nat.le_trans HZ.out hb.size
       clear Hq20 HB HZ
       have Hq20 := Aside0.mk n1
       have HB := Aside0.mk n2
       have HZ := Aside0.mk n3
       clear n1 n2 n3
       clear hb))
  go_ret
  exact ⟨rfl, HB.out⟩
set_option maxHeartbeats 8000000 in
set_option maxRecDepth 100000 in
theorem FnExactSortNames_stop1 (x0 : List ByteArray) (y0 : List ByteArray) (r : List ByteArray) (left0 : Int)
    (p0 : ∃ k, laws_szStringS.f k (x0) 1048576 = some left0)
    (p1 : decide (left0 < 0) = true)
    (W : World) {A0 : Option Addr} {c0 : Nat} (hHA0 : Kd.C Kd.string W A0 x0.length x0) (kHA0 : x0.length ≤ c0) :
    Calls Try.prog 4 #[.slice A0 x0.length c0] W fun e w' => e = .returned (.bool true) ∧ Below W.heap.size W w' := by
  have HA0 := Aside0.mk hHA0
  clear hHA0
  have HB := Aside0.mk (Below.refl W.heap.size W)
  have HZ := Aside0.mk (Nat.le_refl W.heap.size)
  have HZ0 := Aside0.mk (Nat.le_refl W.heap.size)
  go_enter Try.func4, Try.ntmps4
  go_wp2_with (first
    | ((with_reducible refine gate_callee (f := 6) rfl ?_)
       refine goesL_ (some 13) rfl rfl Try.func6 (by kernel_rfl) rfl #[.slice A0 x0.length c0, .int .i64 1048576] rfl (by (try simp only [List.map_toArray, List.map_cons, List.map_nil]); first | done | rfl) ?_
       have hh := p0
       obtain ⟨kq2, eq2⟩ := hh
       (with_reducible refine (laws_szStringS.calls kq2 _ _ (x0) 1048576 left0 _ (Kd.C_below HA0.out HB.out) kHA0 eq2).mono ?_)
       rintro e w1 ⟨rfl, hb⟩
       (try replace hb := Drawn0.below hb)
       refine ⟨_, rfl, ?_⟩
       have n1 := below_step HB.out hb
       have n2 := Nat.le_trans HZ.out hb.size
       clear HB HZ
       have HB := Aside0.mk n1
       have HZ := Aside0.mk n2
       clear n1 n2
       clear hb))
  go_ret
  exact ⟨rfl, HB.out⟩
end Go.Proofs.Ytochgledinnlhaa.Pu
end
section
namespace Go.Proofs.Ytochgledinnlhaa.Pu
open Go.RowKit Go.Proofs.YtochgledinnlhaaW.PrintWords Go.Proofs.YtochgledinnlhaaW.PrintLast Go.Proofs.Ytochgledinnlhaa.Pl Go.Proofs.Ytochgledinnlhaa.Ext
set_option linter.unusedVariables false
set_option linter.unusedSimpArgs false
theorem FnExactSortNames_told (x0 : List ByteArray) (hW0 : x0.length ≤ maxLen ∧ ∀ y ∈ x0, y.size ≤ maxLen) (W : World) {A0 : Option Addr} {c0 : Nat} (g0 : Kd.C Kd.string W A0 x0.length x0) (k0 : x0.length ≤ c0) :
    Calls Try.prog 4 #[.slice A0 x0.length c0] W fun e w' => e = .returned (.bool true) ∧ Below W.heap.size W w' := by
  have hs := szStringS_ev x0 hW0 1048576 (by omega) (by omega)
  by_cases hc : cut (wts x0) 1048576 < 0
  · exact FnExactSortNames_stop1 x0 x0 x0 _ hs.rounds (decide_eq_true hc) W g0 k0
  have hw : wts x0 ≤ 1048576 := by
    have := (not_congr (cut_neg (n := wts x0) (left := 1048576))).1 hc
    omega
  have hl : x0.length ≤ 1048576 := by unfold wts at hw; omega
  have hr : (srt x0).length ≤ x0.length := by have := (fold_ins x0 [] List.Pairwise.nil).2.2; simpa [srt] using this
  refine FnExactSortNames_walk x0 x0 (srt x0) _ _ _ hs.rounds (decide_eq_false hc) (toStringS_ev x0 hl).rounds (spec_SortNames_ev x0 hl).rounds ⟨0, ?_⟩ (eqStringS_ev _ (by omega)).rounds (eqStringS_ev x0 hl).rounds
    hl (by omega) rfl (decide_eq_false (by omega)) (by omega) (by omega) rfl (decide_eq_false (by omega)) (heldStringS_ev _ (by omega) 1 (by omega) (by omega)).rounds W g0 k0
  unfold impl_SortNames.f
  rw [if_pos (by omega), sorted_srt]

end Go.Proofs.Ytochgledinnlhaa.Pu
end
section
namespace Go.Proofs.Ytochgledinnlhaa.Rd
open Go.RowKit Go.Proofs.YtochgledinnlhaaW.PrintWords
set_option linter.unusedVariables false
/-- What reads as_ data of type t, by at most n steps, is of kind d and meets q. -/
def Op (P : Program) (n : Nat) (t : TypeId) {α : Type} (d : Kd α) (q : α → Prop) : Prop :=
  ∀ (H : Type) (enc : TypeId × Value → H) (w : World) (base : Nat) (spare : Nat → Bool) (held : Bool) (fuel : Nat) (cs : List Value) (x : DataW H × List MemPlace),
    fuel ≤ n → DataW.trod enc P w base spare held fuel t cs = some x → ∃ y, d.K w y cs ∧ q y
theorem Op.imp {P : Program} {n : Nat} {t : TypeId} {α : Type} {d d' : Kd α} {q q' : α → Prop} (h1 : ∀ w y cs, d.K w y cs → d'.K w y cs) (h2 : ∀ y, q y → q' y) (h : Op P n t d q) : Op P n t d' q' := by
  intro H enc w base spare held fuel cs x hf hx
  obtain ⟨y, hy, hq⟩ := h H enc w base spare held fuel cs x hf hx
  exact ⟨y, h1 _ _ _ hy, h2 _ hq⟩
theorem Op.int {P : Program} {n : Nat} {t : TypeId} {k : IntKind} (ht : P.underlying t = some (.int k)) : Op P n t (Kd.int k) (fun x => (Lit.int k x).wf = true) := by
  intro H enc w base spare held fuel cs x hf hx
  obtain ⟨m, rfl, rfl, hw⟩ := DataW.trod_int ht hx
  exact ⟨m, rfl, hw⟩
theorem Op.bool {P : Program} {n : Nat} {t : TypeId} (ht : P.underlying t = some .bool) : Op P n t Kd.bool (fun _ => True) := by
  intro H enc w base spare held fuel cs x hf hx
  obtain ⟨m, rfl, rfl⟩ := DataW.trod_bool ht hx
  exact ⟨m, rfl, trivial⟩
theorem trod_string' {H : Type} {enc : TypeId × Value → H} {P : Program} {w : World} {base : Nat} {spare : Nat → Bool} {held : Bool} {fuel : Nat} {t : TypeId} {cs : List Value} {x : DataW H × List MemPlace}
    (ht : P.underlying t = some .string) (h : DataW.trod enc P w base spare held fuel t cs = some x) : ∃ s, cs = [.string s] ∧ s.size ≤ maxLen := by
  cases fuel with
  | zero => simp [DataW.trod] at h
  | succ n =>
    unfold DataW.trod at h
    rw [ht] at h
    split at h <;> simp_all
theorem Op.string {P : Program} {n : Nat} {t : TypeId} (ht : P.underlying t = some .string) : Op P n t Kd.string (fun s => s.size ≤ maxLen) := by
  intro H enc w base spare held fuel cs x hf hx
  obtain ⟨m, rfl, hm⟩ := trod_string' ht hx
  exact ⟨m, rfl, hm⟩
theorem add_add (a : Addr) (i j : Nat) : (a.add i).add j = a.add (i + j) := by
  unfold Addr.add
  by_cases h1 : i = 0 <;> by_cases h2 : j = 0 <;> simp [h1, h2, Nat.add_assoc]
theorem choose_list {α : Type} {p : Nat → α → Prop} (n : Nat) (h : ∀ i, i < n → ∃ y, p i y) : ∃ ys : List α, ys.length = n ∧ ∀ i y, ys[i]? = some y → p i y := by
  induction n with
  | zero => exact ⟨[], rfl, fun i y hy => by simp at hy⟩
  | succ n ih =>
    obtain ⟨ys, hl, hy⟩ := ih (fun i hi => h i (by omega))
    obtain ⟨z, hz⟩ := h n (by omega)
    refine ⟨ys ++ [z], by simp [hl], fun i y hi => ?_⟩
    by_cases hlt : i < n
    · rw [List.getElem?_append_left (by omega)] at hi
      exact hy i y hi
    · by_cases he : i = n
      · subst he
        rw [List.getElem?_append_right (by omega)] at hi
        simp [hl] at hi
        subst hi
        exact hz
      · rw [List.getElem?_eq_none (by simp; omega)] at hi
        cases hi
theorem Op.slice {P : Program} {n : Nat} {t e : TypeId} {α : Type} {d : Kd α} {q : α → Prop} (ht : P.underlying t = some (.slice e)) (hsz : P.cellsOf e = d.sz) (h : ∀ k, k < n → Op P k e d q) :
    Op P n t (Kd.slice e d) (fun xs => xs.length ≤ maxLen ∧ ∀ y ∈ xs, q y) := by
  intro H enc w base spare held fuel cs x hf hx
  rcases DataW.trod_slice ht hx with ⟨rfl, _⟩ | ⟨a, len, cap, elems, rest, m, hm, rfl, _, hb, hl, hc, hlen, hel, _, _⟩
  · exact ⟨[], ⟨none, 0, rfl, Nat.le_refl _, ⟨rfl, by simp, fun hp => absurd hp (by simp)⟩⟩, by simp, fun y hy => by simp at hy⟩
  · have hone : ∀ i, i < len → ∃ y, (∃ c, c.length = d.sz ∧ d.K w y c ∧ ∀ j u, c[j]? = some u → w.cell? (a.add (i * d.sz + j)) = some u) ∧ q y := by
      intro i hi
      have h1 := hel i hi
      rw [List.getElem?_eq_getElem (by omega)] at h1
      obtain ⟨c, hc1, hc2⟩ := Option.bind_eq_some_iff.1 h1
      obtain ⟨y, hy, hq⟩ := h m (by omega) H enc w base spare held m c _ (Nat.le_refl _) hc2
      obtain ⟨_, hcl, hcells⟩ := World.cells?_some hc1
      refine ⟨y, ⟨c, by omega, hy, fun j u hu => ?_⟩, hq⟩
      have hj : j < P.cellsOf e := by
        rw [← hcl]
        exact (List.getElem?_eq_some_iff.1 hu).1
      have := hcells j hj
      rw [add_add, hsz] at this
      rw [this, hu]
    obtain ⟨ys, hyl, hys⟩ := choose_list len hone
    have hmx : len ≤ 9223372036854775807 := by
      have : cap ≤ 9223372036854775807 := hc
      omega
    refine ⟨ys, ⟨some a, cap, by rw [hyl], by omega, ⟨rfl, by omega, fun _ => ⟨a, rfl, fun j p hj => (hys j p hj).1⟩⟩⟩, by rw [hyl]; exact hmx, fun y hy => ?_⟩
    obtain ⟨i, hi, rfl⟩ := List.getElem_of_mem hy
    exact (hys i _ (List.getElem?_eq_getElem hi)).2
/-- Fields, from an offset on. -/
def OpF (P : Program) (n : Nat) (fs : List Field) (off : Nat) {α : Type} (d : Kd α) (q : α → Prop) : Prop :=
  ∀ (H : Type) (enc : TypeId × Value → H) (w : World) (base : Nat) (spare : Nat → Bool) (held : Bool) (fuel : Nat) (cs : List Value), fuel ≤ n →
    (∀ f ∈ fs, ∃ x, DataW.trod enc P w base spare held fuel f.type ((cs.drop f.offset).take (P.cellsOf f.type)) = some x) → cs.length = off + d.sz → ∃ y, d.K w y (cs.drop off) ∧ q y
theorem OpF.one {P : Program} {n : Nat} {f : Field} {off : Nat} {α : Type} {d : Kd α} {q : α → Prop} (ho : f.offset = off) (hsz : P.cellsOf f.type = d.sz) (h : Op P n f.type d q) : OpF P n [f] off d q := by
  intro H enc w base spare held fuel cs hf hx hl
  obtain ⟨x, hx⟩ := hx f (List.mem_singleton.2 rfl)
  rw [ho, hsz, List.take_of_length_le (by rw [List.length_drop]; omega)] at hx
  exact h H enc w base spare held fuel _ x hf hx
theorem OpF.cons {P : Program} {n : Nat} {f : Field} {fs : List Field} {off : Nat} {α β : Type} {a : Kd α} {b : Kd β} {qa : α → Prop} {qb : β → Prop} (ho : f.offset = off) (hsz : P.cellsOf f.type = a.sz) (h : Op P n f.type a qa) (hr : OpF P n fs (off + a.sz) b qb) :
    OpF P n (f :: fs) off (Kd.pair a b) (fun y => qa y.1 ∧ qb y.2) := by
  intro H enc w base spare held fuel cs hf hx hl
  have hl' : cs.length = off + (a.sz + b.sz) := hl
  obtain ⟨x, h1⟩ := hx f (List.mem_cons_self ..)
  rw [ho, hsz] at h1
  obtain ⟨y, hy, hq⟩ := h H enc w base spare held fuel _ x hf h1
  obtain ⟨z, hz, hq2⟩ := hr H enc w base spare held fuel cs hf (fun g hg => hx g (List.mem_cons_of_mem _ hg)) (by omega)
  refine ⟨(y, z), ⟨_, _, ?_, hy, hz⟩, hq, hq2⟩
  rw [← List.drop_drop, List.take_append_drop]
theorem Op.struct {P : Program} {n : Nat} {t : TypeId} {fs : Array Field} {α : Type} {d : Kd α} {q : α → Prop} (ht : P.underlying t = some (.struct fs)) (hsz : P.cellsOf t = d.sz) (h : ∀ k, k < n → OpF P k fs.toList 0 d q) : Op P n t d q := by
  intro H enc w base spare held fuel cs x hf hx
  obtain ⟨xs, m, hm, _, hl, hxl, hfs⟩ := DataW.trod_struct ht hx
  have hr := h m (by omega) H enc w base spare held m cs (Nat.le_refl _) (fun f hfm => ?_) (by omega)
  · simpa using hr
  · obtain ⟨i, hi, rfl⟩ := List.getElem_of_mem hfm
    have hi' : i < fs.size := by simpa using hi
    have h2 := hfs i _ (Array.getElem?_eq_getElem hi')
    rw [List.getElem?_eq_getElem (by omega)] at h2
    exact ⟨_, by simpa using h2⟩
/-- The same at whatever fuel. -/
theorem Op.open_ {P : Program} {t : TypeId} {α : Type} {d : Kd α} {q : α → Prop} (h : ∀ n, Op P n t d q) {H : Type} {enc : TypeId × Value → H} {w : World} {base : Nat} {spare : Nat → Bool} {held : Bool} {v : Value} {x : DataW H} {ps : List MemPlace}
    (ht : DataW.Trod enc P w base spare held t v x ps) : ∃ y, d.K w y v.cells.toList ∧ q y := by
  obtain ⟨fuel, hf⟩ := ht
  exact h fuel H enc w base spare held fuel _ _ (Nat.le_refl _) hf
end Go.Proofs.Ytochgledinnlhaa.Rd
end
