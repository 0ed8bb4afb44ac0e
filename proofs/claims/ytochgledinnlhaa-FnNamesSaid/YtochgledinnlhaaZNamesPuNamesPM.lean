/- Draws of names, and what is told of them. No condition beyond the sizes named. -/
import Derived.Test.YtochgledinnlhaaZNamesPu11
import Derived.Test.YtochgledinnlhaaZNamesPu12M
import Derived.Test.YtochgledinnlhaaZNamesPlM
import Derived.Test.YtochgledinnlhaaZNamesWLastM
import Derived.Lib.AppendZerosOnto
import Derived.Test.YtochgledinnlhaaZNamesPu3
import Derived.Test.YtochgledinnlhaaZNamesWWords
import Derived.Deep.Slices
import Derived.ChangeArms
import Derived.DataReads
section
namespace Go.Proofs.Ytochgledinnlhaa.Pu
open Go.RowKit Go.Proofs.YtochgledinnlhaaW.PrintWords Go.Proofs.YtochgledinnlhaaW.PrintLast Go.Proofs.Ytochgledinnlhaa.Pl Go.Proofs.Ytochgledinnlhaa.Ext
set_option linter.unusedVariables false
set_option linter.unusedSimpArgs false
theorem l2List_ev (l : List Int) (hl : l.length ≤ 1048576) (i h : Int) (h0 : 0 ≤ i) (h1 : i ≤ l.length) : ∃ xs i' h', Ev (fun k => spec_l2List.f k l i h) (xs, i', h') ∧ xs.length ≤ 5 ∧ (∀ y ∈ xs, y.size ≤ 2) ∧ 0 ≤ i' ∧ i' ≤ l.length := by
  obtain ⟨x, i1, h2, e, a, b, c, d⟩ := l1Below_ev l hl i h 6 h0 h1 (by decide) (by decide)
  suffices hh : ∀ (m j : Nat) (acc : List ByteArray) (i h : Int), ((j + m : Nat) : Int) = x → acc.length = j → (∀ y ∈ acc, y.size ≤ 2) → 0 ≤ i → i ≤ l.length →
      ∃ xs i' h', Ev (fun k => spec_l2List.l0 k acc x (j : Int) l i h) (xs, i', h') ∧ xs.length ≤ 5 ∧ (∀ y ∈ xs, y.size ≤ 2) ∧ 0 ≤ i' ∧ i' ≤ l.length by
    obtain ⟨xs, i', h', e2, r⟩ := hh x.toNat 0 [] i1 h2 (by omega) rfl (by simp) c d
    refine ⟨xs, i', h', ?_, r⟩
    simp only [spec_l2List.f]
    exact Ev.fix e e2
  intro m
  induction m with
  | zero =>
    intro j acc i h hj ha hs h0 h1
    refine ⟨acc, i, h, Ev.up ?_, by omega, hs, h0, h1⟩
    simp only [spec_l2List.l0]
    exact Ev.neg (by omega) (Ev.now _)
  | succ m ih =>
    intro j acc i h hj ha hs h0 h1
    obtain ⟨s, i2, h3, e2, hm, c2, d2⟩ := l1Pick_ev l hl i h [(⟨#[97]⟩ : ByteArray), (⟨#[98]⟩ : ByteArray), (⟨#[100]⟩ : ByteArray), (⟨#[120, 49]⟩ : ByteArray), (⟨#[120, 50]⟩ : ByteArray), (⟨#[97]⟩ : ByteArray)] h0 h1 (by decide) (by decide)
    have hsz : s.size ≤ 2 := by
      simp only [List.mem_cons, List.not_mem_nil, or_false] at hm
      rcases hm with rfl | rfl | rfl | rfl | rfl | rfl <;> decide
    obtain ⟨xs, i', h', e3, r⟩ := ih (j + 1) (acc ++ [s]) i2 h3 (by omega) (by simp [ha]) (by
      intro y hy
      rcases List.mem_append.1 hy with hy | hy
      · exact hs y hy
      · rw [List.mem_singleton.1 hy]; exact hsz) c2 d2
    refine ⟨xs, i', h', Ev.up ?_, r⟩
    simp only [spec_l2List.l0, w1' (show j < 6 by omega) (by decide)]
    exact Ev.pos (by omega) (Ev.fix e2 (Ev.pos (by omega) e3))
theorem DrawSortNames_ev (l : List Int) (hl : l.length ≤ 1048576) : ∃ xs, Ev (fun k => spec_DrawSortNames.f k l) xs ∧ xs.length ≤ 5 ∧ (∀ y ∈ xs, y.size ≤ 2) := by
  obtain ⟨h, e⟩ := l1New_ev l hl
  obtain ⟨xs, i', h', e2, a, b, _⟩ := l2List_ev l hl 0 h (Int.le_refl _) (by omega)
  refine ⟨xs, ?_, a, b⟩
  simp only [spec_DrawSortNames.f]
  exact Ev.bind e (Ev.bind e2 (Ev.now _))
theorem DrawUniteNames_ev (l : List Int) (hl : l.length ≤ 1048576) : ∃ xs ys, Ev (fun k => spec_DrawUniteNames.f k l) (xs, ys) ∧ xs.length ≤ 5 ∧ (∀ y ∈ xs, y.size ≤ 2) ∧ ys.length ≤ 5 ∧ (∀ y ∈ ys, y.size ≤ 2) := by
  obtain ⟨h, e⟩ := l1New_ev l hl
  obtain ⟨xs, i', h', e2, a, b, c, d⟩ := l2List_ev l hl 0 h (Int.le_refl _) (by omega)
  obtain ⟨ys, i2, h2, e3, a2, b2, _⟩ := l2List_ev l hl i' h' c d
  refine ⟨xs, ys, ?_, a, b, a2, b2⟩
  simp only [spec_DrawUniteNames.f]
  exact Ev.bind e (Ev.bind e2 (Ev.bind e3 (Ev.now _)))
theorem DrawIsName_ev (l : List Int) (hl : l.length ≤ 1048576) : ∃ s, Ev (fun k => spec_DrawIsName.f k l) s ∧ s.size ≤ 1048576 := by
  obtain ⟨h, e⟩ := l1New_ev l hl
  obtain ⟨s, i2, h3, e2, hm, _⟩ := l1Pick_ev l hl 0 h [(⟨#[120]⟩ : ByteArray), (⟨#[120, 49]⟩ : ByteArray), (⟨#[49, 120]⟩ : ByteArray), (⟨#[88]⟩ : ByteArray), (⟨#[97, 98, 99, 100]⟩ : ByteArray), (⟨#[97, 98, 99, 100, 101]⟩ : ByteArray), (⟨#[]⟩ : ByteArray), (⟨#[105, 102]⟩ : ByteArray), (⟨#[102, 111, 114]⟩ : ByteArray), (⟨#[105, 102, 120]⟩ : ByteArray), (⟨#[97, 45]⟩ : ByteArray)] (Int.le_refl _) (by omega) (by decide) (by decide)
  refine ⟨s, ?_, ?_⟩
  · simp only [spec_DrawIsName.f]
    exact Ev.bind e (Ev.fix e2 (Ev.now _))
  · simp only [List.mem_cons, List.not_mem_nil, or_false] at hm
    rcases hm with rfl | rfl | rfl | rfl | rfl | rfl | rfl | rfl | rfl | rfl | rfl <;> decide
theorem srt_len (x0 : List ByteArray) : (srt x0).length ≤ x0.length := by have := (fold_ins x0 [] List.Pairwise.nil).2.2; simpa [srt] using this
theorem DrawAreAscending_ev (l : List Int) (hl : l.length ≤ 1048576) : ∃ xs, Ev (fun k => spec_DrawAreAscending.f k l) xs ∧ xs.length ≤ 5 := by
  obtain ⟨h, e⟩ := l1New_ev l hl
  obtain ⟨x, i1, h2, e1, a1, b1, c1, d1⟩ := l1Below_ev l hl 0 h 2 (Int.le_refl _) (by omega) (by decide) (by decide)
  obtain ⟨xs, i', h', e2, a, b, _⟩ := l2List_ev l hl i1 h2 c1 d1
  by_cases hx : x = 0
  · refine ⟨srt xs, ?_, by have := srt_len xs; omega⟩
    simp only [spec_DrawAreAscending.f, spec_l1Once.f]
    refine Ev.bind e (Ev.fix (by rw [e1]; rfl) (Ev.pos (by simp [hx]) (Ev.bind e2 (Ev.bind (spec_SortNames_ev xs (by omega)) (Ev.now _)))))
  · refine ⟨xs, ?_, a⟩
    simp only [spec_DrawAreAscending.f, spec_l1Once.f]
    refine Ev.bind e (Ev.fix (by rw [e1]; rfl) (Ev.neg (by simp [hx]) (Ev.bind e2 (Ev.now _))))
theorem sameTexts_self (xs : List ByteArray) (hx : xs.length ≤ 1048576) : Ev (fun k => laws_sameTexts.f k xs xs) true := by
  suffices h : ∀ (m i : Nat), i + m = xs.length → Ev (fun k => laws_sameTexts.l0 k xs xs (i : Int)) true by
    simp only [laws_sameTexts.f]
    exact Ev.pos (by first | trivial | rfl) (h xs.length 0 (by omega))
  intro m
  induction m with
  | zero =>
    intro i hi
    refine Ev.up ?_
    simp only [laws_sameTexts.l0]
    exact Ev.neg (by omega) (Ev.now _)
  | succ m ihm =>
    intro i hi
    refine Ev.up ?_
    simp only [laws_sameTexts.l0, w1' (show i < xs.length by omega) hx]
    exact Ev.pos (by omega) (Ev.pos (by omega) (Ev.pos (by omega) (Ev.pos (by first | trivial | rfl) (ihm (i + 1) (by omega)))))
theorem asc_of (xs : List ByteArray) (h : xs.Pairwise lt) : ∀ (m i : Nat), 1 ≤ i → i + m ≤ xs.length → asc xs i m = true
  | 0, _, _, _ => rfl
  | m + 1, i, h1, h2 => by
    have ha : xs.getD (i - 1) ByteArray.empty = xs[i - 1]'(by omega) := by rw [List.getD_eq_getElem?_getD, List.getElem?_eq_getElem (by omega)]; rfl
    have hb : xs.getD i ByteArray.empty = xs[i]'(by omega) := by rw [List.getD_eq_getElem?_getD, List.getElem?_eq_getElem (by omega)]; rfl
    have hl := List.pairwise_iff_getElem.1 h (i - 1) i (by omega) (by omega) (by omega)
    unfold asc
    rw [asc_of xs h m (i + 1) (by omega) (by omega), Bool.and_true, tl, tl, bytesLess_eq, ha, hb]
    exact decide_eq_true hl
theorem IndexOf_at (xs : List ByteArray) (hx : xs.length ≤ 1048576) (hd : xs.Nodup) (i : Nat) (hi : i < xs.length) : Ev (fun k => impl_IndexOf.f k xs (rdOf ByteArray.empty xs (i : Int))) (i : Int) := by
  suffices h : ∀ (m j : Nat), j + m = i → Ev (fun k => slices_Index_string_string.l0 k xs (rdOf ByteArray.empty xs (i : Int)) (xs.length : Int) (j : Int)) (i : Int) from Ev.bind (h i 0 (by omega)) (Ev.now _)
  intro m
  induction m with
  | zero =>
    intro j hj
    obtain rfl : j = i := by omega
    refine Ev.up ?_
    simp only [slices_Index_string_string.l0]
    exact Ev.pos (by omega) (Ev.pos (by omega) (Ev.pos (by omega) (Ev.pos (by first | trivial | rfl) (Ev.now _))))
  | succ m ih =>
    intro j hj
    refine Ev.up ?_
    simp only [slices_Index_string_string.l0, w1' (show j < xs.length by omega) hx]
    refine Ev.pos (by omega) (Ev.pos (by omega) (Ev.pos (by omega) (Ev.neg (fun e => ?_) (ih (j + 1) (by omega)))))
    rw [rdOf_str, rdOf_str, tl, tl] at e
    have e2 := Sm.toList_inj e
    rw [List.getD_eq_getElem?_getD, List.getD_eq_getElem?_getD, List.getElem?_eq_getElem hi, List.getElem?_eq_getElem (show j < xs.length by omega)] at e2
    have h3 := List.pairwise_iff_getElem.1 hd j i (by omega) hi (by omega)
    exact h3 e2.symm

end Go.Proofs.Ytochgledinnlhaa.Pu
end
section
namespace Go.Proofs.Ytochgledinnlhaa.Pu
open Go.RowKit Go.Proofs.YtochgledinnlhaaW.PrintWords Go.Proofs.YtochgledinnlhaaW.PrintLast Go.Proofs.Ytochgledinnlhaa.Pl Go.Proofs.Ytochgledinnlhaa.Ext
set_option linter.unusedVariables false
set_option linter.unusedSimpArgs false
theorem zeroB (w : World) : (zeroValue 4).run Try.prog w = .ok (.bool false) w := by kernel_rfl
noncomputable def eB : Sm.El Try.prog 4 Bool := Sm.elBool Try.underlying4 zeroB
/-- slices.Grow of the nil row. -/
theorem grow_nil (n : Nat) (hn : n < 8796093022208) (w : World) :
    Calls Try.prog 40 #[.slice none 0 0, .int .i64 n] w fun e w' => ∃ v, e = .returned v ∧ Kd.R Kd.string 9 w' w.heap.size (fun _ => True) v [] ∧ Below w.heap.size w w' := by
  have h2 : wrap64 ((0 : Int) - 0) = 0 := by unfold wrap64; omega
  by_cases h0 : n = 0
  · subst h0
    go_enter Try.func40, Try.ntmps40
    go_wp2
    go_ret
    exact ⟨_, rfl, Kd.R_nil _ _ _ _ _, Below.refl _ _⟩
  · obtain ⟨i0, hi, hzz⟩ := Option.map_eq_some_iff.1 info9
    simp only [Prod.mk.injEq] at hzz
    obtain ⟨hz0, hz1, hz2⟩ := hzz
    have h4 : (n : Int) > 0 := by omega
    have h1 : ¬ ((n : Int) < 0) := by omega
    have h3 : wrap64 ((n : Int) - 0) = (n : Int) := by unfold wrap64; omega
    have hrz : ∀ ty, (Builtin.append_ #[22, 3] ty #[.slice none 0 0, .int .i64 n]).run Try.prog w =
        .ok (.slice (some ⟨w.heap.size, 0, none⟩) n (grownCap w n 0 9)) (w.drew.alloc (.cells (([] : List Value).toArray ++ Builtin.zeroCells (Value.string ⟨#[]⟩).cells n ++ Builtin.zeroCells (Value.string ⟨#[]⟩).cells (grownCap w n 0 9 - n)) 9)) := fun ty => by
      have h := Lib.run_append_grow_zeros w 22 3 ty 9 i0 (.string ⟨#[]⟩) .i64 .i64 Try.underlying22 Try.underlying3 hi hz0 none 0 0 [] (run_firstCells_none w.drew i0.size 0 0 0) n (by omega) (by omega) (by omega) (by omega) (by rw [hz2]; omega)
        (by rw [hz2]; exact growslice_fits (by omega) (by omega))
      simpa using h
    have hGn : n ≤ grownCap w n 0 9 := grownCap_ge w _ _ _
    have hGm := grownCap_le_maxLen w n 0 9 (by unfold maxLen; omega)
    obtain ⟨G, hG⟩ : ∃ G, G = grownCap w n 0 9 := ⟨_, rfl⟩
    rw [← hG] at hrz hGn hGm
    have hG63 : G ≤ 9223372036854775807 := by unfold maxLen at hGm; omega
    clear hG hi hz0 hz1 hz2
    have HM := Aside0.mk hGm
    clear hGm
    go_enter Try.func40, Try.ntmps40
    go_wp2_with (at_builtin; refine Lib.wpList_append_run _ rfl _ _ _ _ rfl _ _ rfl rfl _ _ (hrz _) ?_)
    go_ret
    refine ⟨_, rfl, Kd.R_of_own (h1 := fun _ => rfl) ?_ (fun _ _ => trivial), below_alloc (below_drew1 (Below.refl _ _)) _⟩
    refine ⟨rfl, .inr ⟨w.heap.size, G, _, rfl, Nat.le_refl _, heap_alloc_new w.drew _, Nat.zero_le _, HM.out, ?_, by simp [encs]⟩⟩
    simp [Builtin.zeroCells, Value.cells]
    omega
/-- slices.Concat of two rows. -/
theorem concat_two (A B : Option Addr) (ca cb : Nat) (xs ys : List ByteArray) (g : Nat) (w : World) (h0 : w.cell? ⟨g, 0, none⟩ = some (.slice A xs.length ca)) (h1 : w.cell? ⟨g, 1, none⟩ = some (.slice B ys.length cb))
    (hA : Kd.C Kd.string w A xs.length xs) (hB : Kd.C Kd.string w B ys.length ys) (hl : xs.length + ys.length < 8796093022208) :
    Calls Try.prog 27 #[.slice (some ⟨g, 0, none⟩) 2 2] w fun e w' => ∃ v, e = .returned v ∧ Kd.R Kd.string 9 w' w.heap.size (fun _ => True) v (xs ++ ys) ∧ Below w.heap.size w w' := by
  have HA := Aside0.mk hA
  have HB_ := Aside0.mk hB
  have HL := Aside0.mk hl
  have H0 := Aside0.mk h0
  have H1 := Aside0.mk h1
  clear hA hB h0 h1
  have hx : xs.length ≤ 8796093022208 := by omega
  have hy : ys.length ≤ 8796093022208 := by omega
  have HG := Aside0.mk (grow_nil (xs.length + ys.length) HL.out)
  clear hl
  go_enter Try.func27, Try.ntmps27
  go_wp2
  go_loopg [3, 11] 2 (fun gq v3 v11 w' => w = w' ∧ ((v11 = .int .i64 0 ∧ v3 = .int .i64 0 ∧ gq = 2) ∨ (v11 = .int .i64 1 ∧ v3 = .int .i64 xs.length ∧ gq = 1) ∨ (v11 = .int .i64 2 ∧ v3 = .int .i64 (xs.length + ys.length) ∧ gq = 0)))
  case atStart => exact ⟨rfl, .inl ⟨rfl, rfl, rfl⟩⟩
  case round =>
    obtain ⟨rfl, ⟨rfl, rfl, hg⟩ | ⟨rfl, rfl, hg⟩ | ⟨rfl, rfl, hg⟩⟩ := hrel
    · have c0 := H0.out
      go_wp2
      go_roundg 1
      case measure => omega
      case rel => exact ⟨rfl, .inr (.inl ⟨rfl, by first | rfl | simp, rfl⟩)⟩
    · have c1 := H1.out
      go_wp2
      go_roundg 0
      case measure => omega
      case rel => exact ⟨rfl, .inr (.inr ⟨rfl, by first | rfl | simp, rfl⟩)⟩
    · clear hg
      have hcast : ((xs.length : Int) + (ys.length : Int)) = ((xs.length + ys.length : Nat) : Int) := by omega
      rw [hcast]
      clear hcast
      go_wp2_with ((with_reducible refine gate_callee (f := 40) rfl ?_); refine goesL_ (some 24) rfl rfl Try.func40 (by kernel_rfl) rfl #[.slice none 0 0, .int .i64 ((xs.length + ys.length : Nat) : Int)] rfl (by (try simp only [List.map_toArray, List.map_cons, List.map_nil]); first | done | rfl) ?_; (with_reducible refine (HG.out _).mono ?_); rintro e w2 ⟨v6, rfl, ho, hb⟩; refine ⟨_, rfl, ?_⟩; have HO := Aside0.mk ho; have HB := Aside0.mk hb; clear ho hb)
      go_loopg [6, 27] 2 (fun gq v6 v27 w' => ∃ zs : List ByteArray, Aside0 (Kd.R Kd.string 9 w' w.heap.size (fun _ => True) v6 zs) ∧ Aside0 (Below w.heap.size w w') ∧ ((v27 = .int .i64 0 ∧ Aside0 (zs = []) ∧ gq = 2) ∨ (v27 = .int .i64 1 ∧ Aside0 (zs = xs) ∧ gq = 1) ∨ (v27 = .int .i64 2 ∧ Aside0 (zs = xs ++ ys) ∧ gq = 0)))
      case atStart => exact ⟨[], HO, HB, .inl ⟨rfl, ⟨rfl⟩, rfl⟩⟩
      case round =>
        clear HO HB
        obtain ⟨zs, HO, HB, ⟨rfl, hz, hg⟩ | ⟨rfl, hz, hg⟩ | ⟨rfl, hz, hg⟩⟩ := hrel
        · have c0 : wr.cell? ⟨g, 0, none⟩ = some (.slice A xs.length ca) := pw_cell_below HB.out H0.out
          rename_i v6
          go_wp2_with ((with_reducible refine gate_builtin (b := .append) (xs := #[.tmp 31, .tmp 32]) rfl ?_); at_builtin; refine Kd.R_append_rows Kd.string (w0 := w) w.heap.size rfl (.tmp 31) (.tmp 32) 22 9 (.string ⟨#[]⟩) 16 rfl Try.underlying22 info9 rfl (by decide) (by omega) _ zs xs _ _ _ (fun _ => True) (fun _ => False) rfl rfl ?aO ?aR (fun _ _ h => h) (fun _ h => h.elim) ?aF ?aB ?aS ?aL ?_; (case aR => exact (Kd.C_below HA.out HB.out)); (case aB => exact HB.out); (case aF => exact (fun _ _ => trivial)); (case aO => exact HO.out); (case aS => exact below_size HB.out); (case aL => have := HL.out; rw [hz.out]; simp; omega); intro v7 w7 ho hb hg hat; have HO7 := Aside0.mk ho; have HB7 := Aside0.mk hb; clear ho hb hg hat)
          go_roundg 1
          case measure => omega
          case rel => exact ⟨_, HO7, HB7, .inr (.inl ⟨rfl, ⟨by rw [hz.out, List.nil_append]⟩, rfl⟩)⟩
        · have c1 : wr.cell? ⟨g, 1, none⟩ = some (.slice B ys.length cb) := pw_cell_below HB.out H1.out
          go_wp2_with ((with_reducible refine gate_builtin (b := .append) (xs := #[.tmp 31, .tmp 32]) rfl ?_); at_builtin; refine Kd.R_append_rows Kd.string (w0 := w) w.heap.size rfl (.tmp 31) (.tmp 32) 22 9 (.string ⟨#[]⟩) 16 rfl Try.underlying22 info9 rfl (by decide) (by omega) _ zs ys _ _ _ (fun _ => True) (fun _ => False) rfl rfl ?aO ?aR (fun _ _ h => h) (fun _ h => h.elim) ?aF ?aB ?aS ?aL ?_; (case aR => exact (Kd.C_below HB_.out HB.out)); (case aB => exact HB.out); (case aF => exact (fun _ _ => trivial)); (case aO => exact HO.out); (case aS => exact below_size HB.out); (case aL => have := HL.out; rw [hz.out]; omega); intro v7 w7 ho hb hg hat; have HO7 := Aside0.mk ho; have HB7 := Aside0.mk hb; clear ho hb hg hat)
          go_roundg 0
          case measure => omega
          case rel => exact ⟨_, HO7, HB7, .inr (.inr ⟨rfl, ⟨by rw [hz.out]⟩, rfl⟩)⟩
        · go_wp2
          go_ret
          have hz_ := hz.out
          subst hz_
          exact ⟨_, rfl, HO.out, HB.out⟩
def hasB (l : List ByteArray) (s : ByteArray) : Bool := l.any (fun x => decide (x = s))
def uni (out : List ByteArray) : List ByteArray → List ByteArray
  | [] => out
  | s :: r => if hasB out s = true then uni out r else uni (out ++ [s]) r
def impl_UniteNames.f (_k : Nat) (l0 : List ByteArray) (l1 : List ByteArray) : Option (List ByteArray) := if l0.length + l1.length < 8796093022208 ∧ ∀ s ∈ l0 ++ l1, s.size ≤ maxLen then some (uni [] (l0 ++ l1)) else none
theorem uni_step (zs acc : List ByteArray) (i : Nat) (h : i < zs.length) : uni acc (zs.drop i) = if hasB acc (rdOf ByteArray.empty zs (i : Int)) = true then uni acc (zs.drop (i + 1)) else uni (acc ++ [rdOf ByteArray.empty zs (i : Int)]) (zs.drop (i + 1)) := by
  rw [List.drop_eq_getElem_cons h, rdOf_str, List.getD_eq_getElem?_getD, List.getElem?_eq_getElem h]
  rfl
theorem rdOf_mem (zs : List ByteArray) (i : Nat) (h : i < zs.length) : rdOf ByteArray.empty zs (i : Int) ∈ zs := by rw [rdOf_str]; exact mem_getD zs ByteArray.empty i h
set_option maxHeartbeats 4000000 in
set_option maxRecDepth 100000 in
theorem impl_UniteNames.calls (k : Nat) (A0 : Option Addr) (c0 : Nat) (l0 : List ByteArray) (A1 : Option Addr) (c1 : Nat) (l1 : List ByteArray) (r : List ByteArray) (w : World) (hr0 : Kd.C Kd.string w A0 l0.length l0) (hc0 : l0.length ≤ c0) (hr1 : Kd.C Kd.string w A1 l1.length l1) (hc1 : l1.length ≤ c1) (h : impl_UniteNames.f k l0 l1 = some r) :
    Calls Try.prog 9 #[.slice A0 l0.length c0, .slice A1 l1.length c1] w fun e w' => ∃ v0_ : Value, e = .returned (v0_) ∧ Kd.R Kd.string 9 w' w.heap.size (fun _ => True) v0_ r ∧ Below w.heap.size w w' := by
  unfold impl_UniteNames.f at h
  by_cases hl : l0.length + l1.length < 8796093022208 ∧ ∀ s ∈ l0 ++ l1, s.size ≤ maxLen
  · rw [if_pos hl] at h
    obtain rfl := Option.some.inj h
    clear h
    have HR0 := Aside0.mk hr0
    have HR1 := Aside0.mk hr1
    have HL := Aside0.mk hl
    have HCC := Aside0.mk (concat_two A0 A1 c0 c1 l0 l1)
    obtain ⟨zs, hzs⟩ : ∃ zs, zs = l0 ++ l1 := ⟨_, rfl⟩
    have HZS := Aside0.mk hzs
    have HLZ : Aside0 (zs.length < 8796093022208 ∧ ∀ s ∈ zs, s.size ≤ maxLen) := ⟨by rw [hzs]; exact ⟨by simpa using hl.1, hl.2⟩⟩
    rw [← hzs]
    clear hr0 hc0 hr1 hc1 hl hzs
    have HB := Aside0.mk (Below.refl w.heap.size w)
    go_enter Try.func9, Try.ntmps9
    go_wp2_with (first
      | ((with_reducible refine gate_dst (N := 9) rfl ?_); refine Kd.R_lit Kd.string _ 9 ?hg (N := 9) ?hd (xs := ([] : List ByteArray)) (inner := []) (ok := fun _ => True) (okp := fun _ => True) ?hr ?hp (fun _ hk => hk) trivial (Below.refl _ _) (Nat.le_refl _) (by simp) ?_; (case hd => rfl); (case hg => rfl); (case hr => first | (go_simp; done) | (go_simp; rfl)); (case hp => exact (Reps.none _ _)); intro v5 w2 ho hb hg_ hnew_; clear hg_ hnew_; replace HB := Aside0.mk (below_step HB.out hb); have HO5 := Aside0.mk ho; clear hb ho)
      | ((with_reducible refine gate_makeMap (t := 36) rfl ?_); refine Sm.smake_event rfl rfl eB 9 ?_; intro bm w3 hg him hb; have HM := Aside0.mk him; have HGB := Aside0.mk (show w.heap.size ≤ bm by rw [hg]; exact below_size HB.out); replace HO5 := Aside0.mk (Kd.R_below (Kd.R_mono (ok' := fun k => k ≠ bm) (Kd.R_bound HO5.out) (fun k hk => by have := hk.2.2.1; omega)) hb); replace HB := Aside0.mk (below_step HB.out hb); clear hg him hb))
    refine (HCC.out w3.heap.size _ ?h0 ?h1 ?hA ?hB HL.out.1).mono ?_
    case h0 => exact (blk_cell (heap_alloc_new w3 _) 0).trans rfl
    case h1 => exact (blk_cell (heap_alloc_new w3 _) 1).trans rfl
    case hA => exact Kd.C_alloc (Kd.C_below HR0.out HB.out) _
    case hB => exact Kd.C_alloc (Kd.C_below HR1.out HB.out) _
    rintro e w5 ⟨vz, rfl, ho, hb⟩
    rw [← HZS.out] at ho
    have hs := below_size (below_alloc (Below.refl w3.heap.size w3) (.cells #[.slice A0 l0.length c0, .slice A1 l1.length c1] 22 (0, 0)))
    have hb2 : Below w3.heap.size w3 w5 := below_step (below_alloc (Below.refl _ _) _) hb
    have hv5 : ∀ k, v5.ownBlock = some k → k < w3.heap.size := fun k hk => (Kd.R_bound HO5.out).1 k hk |>.2.2.1
    have hbm := HM.out.lt
    have HZ := Aside0.mk (Kd.R_lower (Kd.R_mono (ok' := fun k => k ≠ bm ∧ some k ≠ v5.ownBlock) (Kd.R_bound ho) (fun k hk => ⟨by have := hk.2.1; omega, fun e_ => by have := hv5 k e_.symm; have := hk.2.1; omega⟩)) (Nat.le_trans (below_size HB.out) hs))
    replace HO5 := Aside0.mk (Kd.R_below HO5.out hb2)
    replace HM := Aside0.mk (HM.out.below hb2)
    replace HB := Aside0.mk (below_step HB.out hb2)
    clear ho hs hb2 hv5 hbm hb
    obtain ⟨Az, cz, ez⟩ := Kd.R_slice HZ.out
    subst ez
    go_wp2
    go_loopg [5, 16] zs.length (fun gq v5 v16 w' => ∃ (i : Nat) (acc : List ByteArray), v16 = .int .i64 (i : Int) ∧ Aside0 (i + gq = zs.length ∧ acc.length ≤ i ∧ uni acc (zs.drop i) = uni [] zs) ∧ Aside0 (Kd.R Kd.string 9 w' w.heap.size (fun k => k ≠ bm) v5 acc) ∧ Aside0 (Kd.R Kd.string 9 w' w.heap.size (fun k => k ≠ bm ∧ some k ≠ v5.ownBlock) (.slice Az zs.length cz) zs) ∧ Aside0 (Sm.SMap eB 9 w' bm i (fun s => hasB acc s)) ∧ Aside0 (Below w.heap.size w w'))
    case atStart => exact ⟨0, [], by first | rfl | simp, ⟨by omega, Nat.le_refl _, rfl⟩, HO5, HZ, ⟨HM.out.congr (fun s => rfl)⟩, HB⟩
    case round =>
      clear HO5 HZ HM HB
      obtain ⟨i, acc, rfl, HI, HO5, HZ, HM, HB⟩ := hrel
      by_cases c1 : i < zs.length
      · have c2 : (i : Int) < (zs.length : Int) := by omega
        have c3 := eq_true c2
        have c4 : decide ((i : Int) < (zs.length : Int)) = true := decide_eq_true c2
        have c5 : (0 ≤ (i : Int)) = True := eq_true (by omega)
        obtain ⟨ad, e0, hx⟩ := Kd.at_string (Kd.R_reads' HZ.out).2.2 (i : Int) (by omega) c2
        cases e0
        rw [Int.toNat_natCast] at hx
        have hks : Aside0 ((rdOf ByteArray.empty zs (i : Int)).size ≤ maxLen) := ⟨HLZ.out.2 _ (rdOf_mem zs i c1)⟩
        have hst := Aside0.mk (uni_step zs acc i c1)
        have hnm : Aside0 (i < maxLen) := ⟨by have := HLZ.out.1; unfold maxLen; omega⟩
        have hw1 : Aside0 (wrap64 ((i : Int) + 1) = ((i + 1 : Nat) : Int)) := ⟨w1 c1 (by have := HLZ.out.1; unfold maxLen; omega)⟩
        have hbmw := Aside0.mk HM.out.lt
        clear c2
        have C1 := Aside0.mk c1
        clear c1
        by_cases m1 : hasB acc (rdOf ByteArray.empty zs (i : Int)) = true
        · go_wp2_with ((with_reducible refine gate_lookup (t := 36) rfl ?_); refine Sm.sget_event (E := eB) rfl rfl Try.underlying36 Try.underlying9 rfl HM.out (rdOf ByteArray.empty zs (i : Int)) rfl hks.out (?_ : wpList _ _ _ _ (Act.put _ _ (.bool (hasB acc (rdOf ByteArray.empty zs (i : Int))))) _))
          go_roundg (gk - 1)
          case measure => have := HI.out; have := C1.out; omega
          case rel => exact ⟨i + 1, acc, (by rw [← hw1.out]), ⟨by have := HI.out; have := C1.out; omega, by have := HI.out; omega, by have := HI.out.2.2; rw [hst.out, if_pos m1] at this; exact this⟩, HO5, HZ, ⟨HM.out.mono (Nat.le_succ _)⟩, HB⟩
        · replace m1 : hasB acc (rdOf ByteArray.empty zs (i : Int)) = false := by simpa using m1
          go_wp2_with (first
            | ((with_reducible refine gate_lookup (t := 36) rfl ?_); refine Sm.sget_event (E := eB) rfl rfl Try.underlying36 Try.underlying9 rfl HM.out (rdOf ByteArray.empty zs (i : Int)) rfl hks.out (?_ : wpList _ _ _ _ (Act.put _ _ (.bool (hasB acc (rdOf ByteArray.empty zs (i : Int))))) _))
            | ((with_reducible refine gate_mapUpdate (t := 36) rfl ?_)
               refine Sm.sput_event (E := eB) rfl rfl Try.underlying36 Try.underlying9 rfl HM.out hnm.out (rdOf ByteArray.empty zs (i : Int)) true rfl rfl hks.out trivial ?_
               intro w2 him hg
               have HM2 := Aside0.mk him
               have HO2 := Aside0.mk (Kd.R_grown HO5.out hg (fun k hk e_ => hk (by injection e_)))
               have HZ2 := Aside0.mk (Kd.R_grown HZ.out hg (fun k hk e_ => hk.1 (by injection e_)))
               have HB2 := Aside0.mk (pw_below_grown HB.out _ (below_size HB.out) hg (fun k_ e_ => by injection e_ with e_; rw [← e_]; exact HGB.out))
               have hx2 : w2.cell? (ad.add i) = some (.string (rdOf ByteArray.empty zs (i : Int))) := by
                 obtain ⟨ad2, e2, h2⟩ := Kd.at_string (Kd.R_reads' HZ2.out).2.2 (i : Int) (by omega) (by have := C1.out; omega)
                 cases e2
                 rw [Int.toNat_natCast] at h2
                 exact h2
               clear him hg hx)
            | ((with_reducible refine gate_builtin (b := .append) (xs := #[.tmp 26, .tmp 28]) rfl ?_); at_builtin
               refine Kd.R_append Kd.string (w0 := w) w.heap.size rfl (.tmp 26) (.tmp 28) 22 9 (.string ⟨#[]⟩) 16 rfl Try.underlying22 info9 rfl (by decide) (by omega) _ acc (rdOf ByteArray.empty zs (i : Int)) [.string (rdOf ByteArray.empty zs (i : Int))] (fun k => k ≠ bm) (fun _ => False) rfl rfl ?aP (fun _ hk => hk.elim) ?aF ?aO ?aB ?aS ?aL ?_
               (case aP => exact rfl)
               (case aB => exact HB2.out)
               (case aF => exact (fun k hk e_ => by have := HM2.out.lt; omega))
               (case aO => exact HO2.out)
               (case aS => exact below_size HB2.out)
               (case aL => have := HI.out.2.1; have := C1.out; have := HLZ.out.1; omega)
               intro v7 w7 ho hb hg hat
               have HO7 := Aside0.mk ho
               have HZ7 := Aside0.mk (Kd.R_after HZ2.out hg hat)
               have HM7 := Aside0.mk (HM2.out.kept hg (fun e_ => HO2.out.1 bm e_.symm rfl))
               have HB7 := Aside0.mk hb
               clear ho hb hg hat))
          go_roundg (gk - 1)
          case measure => have := HI.out; have := C1.out; omega
          case rel => exact ⟨i + 1, acc ++ [rdOf ByteArray.empty zs (i : Int)], (by rw [← hw1.out]), ⟨by have := HI.out; have := C1.out; omega, by have := HI.out; simp; omega, by have := HI.out.2.2; rw [hst.out, if_neg (by rw [m1]; decide)] at this; exact this⟩, HO7, HZ7, ⟨HM7.out.congr (fun s => by unfold Sm.put hasB; by_cases hs : s = rdOf ByteArray.empty zs (i : Int) <;> simp [hs, eq_comm])⟩, HB7⟩
      · have c4 : decide ((i : Int) < (zs.length : Int)) = false := decide_eq_false (by omega)
        have c5 : ¬ ((i : Int) < (zs.length : Int)) := by omega
        have hz : Aside0 (acc = uni [] zs) := ⟨by have := HI.out; rw [List.drop_of_length_le (by omega)] at this; exact this.2.2⟩
        clear c1
        go_wp2
        go_ret
        exact ⟨_, rfl, by rw [← hz.out]; exact Kd.R_mono HO5.out (fun _ _ => trivial), HB.out⟩
  · rw [if_neg hl] at h
    cases h

end Go.Proofs.Ytochgledinnlhaa.Pu
end
section
namespace Go.Proofs.Ytochgledinnlhaa.Pu
open Go.RowKit Go.Proofs.YtochgledinnlhaaW.PrintWords Go.Proofs.YtochgledinnlhaaW.PrintLast Go.Proofs.Ytochgledinnlhaa.Pl Go.Proofs.Ytochgledinnlhaa.Ext
set_option linter.unusedVariables false
set_option linter.unusedSimpArgs false
theorem hasB_iff (l : List ByteArray) (s : ByteArray) : hasB l s = true ↔ s ∈ l := by
  unfold hasB
  rw [List.any_eq_true]
  constructor
  · rintro ⟨x, hx, h⟩
    rw [decide_eq_true_eq] at h
    exact h ▸ hx
  · intro h
    exact ⟨s, h, decide_eq_true rfl⟩
/-- Is the name found from a place on? -/
theorem idx_ev (xs : List ByteArray) (hx : xs.length ≤ 1048576) (s : ByteArray) : ∃ t : Int, Ev (fun k => spec_IndexOf.f k xs s) t ∧ (t < 0 ↔ hasB xs s = false) := by
  suffices h : ∀ (m i : Nat), i + m = xs.length → ∃ t : Int, Ev (fun k => spec_IndexOf.l0 k xs s (i : Int)) t ∧ (t < 0 ↔ hasB (xs.drop i) s = false) by
    obtain ⟨t, h1, h2⟩ := h xs.length 0 (by omega)
    exact ⟨t, h1, by simpa using h2⟩
  intro m
  induction m with
  | zero =>
    intro i hi
    refine ⟨-1, Ev.up ?_, ?_⟩
    · simp only [spec_IndexOf.l0]; exact Ev.neg (by omega) (Ev.now _)
    · rw [List.drop_of_length_le (by omega)]; simp [hasB]
  | succ m ih =>
    intro i hi
    obtain ⟨t, h1, h2⟩ := ih (i + 1) (by omega)
    rw [drop_at xs i (by omega)]
    by_cases hc : (rdOf ByteArray.empty xs (i : Int)).toList = s.toList
    · refine ⟨(i : Int), Ev.up ?_, ?_⟩
      · simp only [spec_IndexOf.l0]; exact Ev.pos (by omega) (Ev.pos (by omega) (Ev.pos hc (Ev.now _)))
      · rw [rdOf_str, tl, tl] at hc
        have := Sm.toList_inj hc
        constructor
        · intro h; omega
        · intro h
          have h' : hasB (xs.getD i ByteArray.empty :: xs.drop (i + 1)) s = true := (hasB_iff _ _).2 (by rw [this]; exact List.mem_cons_self ..)
          rw [h'] at h
          cases h
    · refine ⟨t, Ev.up ?_, ?_⟩
      · simp only [spec_IndexOf.l0]
        refine Ev.pos (by omega) (Ev.pos (by omega) (Ev.neg hc ?_))
        rw [w1' (n := xs.length) (by omega) hx]; exact h1
      · rw [h2]
        have hne : ¬ xs.getD i ByteArray.empty = s := fun h => hc (by rw [rdOf_str, h])
        have e : hasB (xs.getD i ByteArray.empty :: xs.drop (i + 1)) s = hasB (xs.drop (i + 1)) s := by unfold hasB; rw [List.any_cons, decide_eq_false hne, Bool.false_or]
        rw [e]
theorem uni_len : ∀ (l acc : List ByteArray), (uni acc l).length ≤ acc.length + l.length
  | [], acc => by simp [uni]
  | s :: r, acc => by
    unfold uni
    split
    · have := uni_len r acc; simp; omega
    · have := uni_len r (acc ++ [s]); simp at this ⊢; omega
theorem uni_nodup : ∀ (l acc : List ByteArray), acc.Nodup → (uni acc l).Nodup
  | [], acc, h => h
  | s :: r, acc, h => by
    unfold uni
    split
    · exact uni_nodup r acc h
    · rename_i hs
      refine uni_nodup r _ (List.nodup_append.2 ⟨h, List.pairwise_singleton _ _, ?_⟩)
      intro a ha b hb
      rw [List.mem_singleton.1 hb]
      intro e
      exact hs ((hasB_iff acc s).2 (e ▸ ha))
theorem unite_l1 (b : List ByteArray) (hb : b.length ≤ 1048576) : ∀ (m i : Nat) (acc : List ByteArray), i + m = b.length → acc.length + m ≤ 2097152 → acc.length + m ≤ 1048576 → Ev (fun k => spec_UniteNames.l1 k b acc (i : Int)) (uni acc (b.drop i)) := by
  intro m
  induction m with
  | zero =>
    intro i acc hi _ _
    refine Ev.up ?_
    simp only [spec_UniteNames.l1]
    rw [List.drop_of_length_le (by omega)]
    exact Ev.neg (by omega) (Ev.now _)
  | succ m ih =>
    intro i acc hi hl hl2
    refine Ev.up ?_
    simp only [spec_UniteNames.l1, w1' (show i < b.length by omega) hb, rdOf_str]
    obtain ⟨t, h1, h2⟩ := idx_ev acc (by omega) (b.getD i ByteArray.empty)
    refine Ev.pos (by omega) (Ev.pos (by omega) (Ev.bind h1 ?_))
    rw [drop_at b i (by omega)]
    unfold uni
    by_cases hc : hasB acc (b.getD i ByteArray.empty) = true
    · rw [if_pos hc]
      refine Ev.neg (fun h => by rw [h2.1 h] at hc; cases hc) (ih (i + 1) acc (by omega) (by omega) (by omega))
    · rw [if_neg hc]
      refine Ev.pos (h2.2 (by simpa using hc)) (Ev.pos (by omega) (ih (i + 1) _ (by omega) (by simp; omega) (by simp; omega)))
theorem spec_UniteNames_ev (a b : List ByteArray) (hl : a.length + b.length ≤ 1048576) : Ev (fun k => spec_UniteNames.f k a b) (uni [] (a ++ b)) := by
  suffices h : ∀ (m i : Nat) (acc : List ByteArray), i + m = a.length → acc.length ≤ i → Ev (fun k => spec_UniteNames.l0 k a b acc (i : Int)) (uni acc (a.drop i ++ b)) by
    simp only [spec_UniteNames.f]
    simpa using h a.length 0 [] (by omega) (Nat.le_refl _)
  intro m
  induction m with
  | zero =>
    intro i acc hi ha
    refine Ev.up ?_
    simp only [spec_UniteNames.l0]
    rw [List.drop_of_length_le (by omega), List.nil_append]
    refine Ev.neg (by omega) ?_
    have := unite_l1 b (by omega) b.length 0 acc (by omega) (by omega) (by omega)
    simpa using this
  | succ m ih =>
    intro i acc hi ha
    refine Ev.up ?_
    simp only [spec_UniteNames.l0, w1' (show i < a.length by omega) (show a.length ≤ 1048576 by omega), rdOf_str]
    obtain ⟨t, h1, h2⟩ := idx_ev acc (by omega) (a.getD i ByteArray.empty)
    refine Ev.pos (by omega) (Ev.pos (by omega) (Ev.bind h1 ?_))
    rw [drop_at a i (by omega), List.cons_append]
    unfold uni
    by_cases hc : hasB acc (a.getD i ByteArray.empty) = true
    · rw [if_pos hc]
      refine Ev.neg (fun h => by rw [h2.1 h] at hc; cases hc) (ih (i + 1) acc (by omega) (by omega))
    · rw [if_neg hc]
      refine Ev.pos (h2.2 (by simpa using hc)) (Ev.pos (by omega) (ih (i + 1) _ (by omega) (by simp; omega)))

end Go.Proofs.Ytochgledinnlhaa.Pu
end
section
namespace Go.Proofs.Ytochgledinnlhaa.Pu
open Go.RowKit Go.Proofs.YtochgledinnlhaaW.PrintWords Go.Proofs.YtochgledinnlhaaW.PrintLast Go.Proofs.YtochgledinnlhaaW.PrintMore Go.Proofs.Ytochgledinnlhaa.Pl Go.Proofs.Ytochgledinnlhaa.Ext
set_option linter.unusedVariables false
set_option linter.unusedSimpArgs false
set_option maxHeartbeats 8000000 in
set_option maxRecDepth 100000 in
theorem FnNames_walk (l0 : List Int) {l s a b u x : List ByteArray} {n : ByteArray} {vN vA : Bool}
    (hw : Aside0 (∀ i : Int, 0 ≤ i → i < (u.length : Int) → wrap64 (i + 1) = i + 1)) (hI : ∀ i : Int, 0 ≤ i → i < (u.length : Int) → ∃ k, impl_IndexOf.f k u (rdOf ByteArray.empty u i) = some i)
    (p0 : Aside0 (laws_big.f l0 = some false))
    (p1 : ∃ k, spec_DrawSortNames.f k l0 = some l)
    (p2 : ∃ k, impl_SortNames.f k l = some s)
    (p3 : ∃ k, spec_DrawUniteNames.f k l0 = some (a, b))
    (p4 : ∃ k, impl_UniteNames.f k a b = some u)
    (p5 : ∃ k, spec_SortNames.f k l = some s)
    (p6 : ∃ k, laws_sameTexts.f k s s = some true)
    (p7 : ∃ k, spec_UniteNames.f k a b = some u)
    (p8 : ∃ k, laws_sameTexts.f k u u = some true)
    (p9 : ∃ k, impl_AreAscending.f k s = some true)
    (p10 : ∃ k, spec_DrawIsName.f k l0 = some n)
    (p11 : ∃ k, spec_DrawAreAscending.f k l0 = some x)
    (p12 : ∃ k, impl_IsName.f k n = some vN)
    (p13 : ∃ k, spec_IsName.f k n = some vN)
    (p14 : ∃ k, impl_AreAscending.f k x = some vA)
    (p15 : ∃ k, spec_AreAscending.f k x = some vA)
    (W : World) {Al0 : Option Addr} {cl0 : Nat} (HRl0 : Kd.C (Kd.int .u8) W Al0 l0.length l0) (HCl0 : l0.length ≤ cl0) :
    Calls Try.prog 5 #[.slice Al0 l0.length cl0] W fun e w' => e = .returned (.bool true) ∧ Below W.heap.size W w' := by
  replace HRl0 := Aside0.mk HRl0
  replace HCl0 := Aside0.mk HCl0
  have HB0 := Aside0.mk (Below.refl W.heap.size W)
  go_enter Try.func5, Try.ntmps5
  go_wp2_with (first
    | ((with_reducible refine gate_callee (f := 15) rfl ?_)
       refine goesL_ (some 12) rfl rfl Try.func15 (by kernel_rfl) rfl #[.slice Al0 l0.length cl0] rfl (by (try simp only [List.map_toArray, List.map_cons, List.map_nil]); first | done | rfl | (simp only [List.length_drop, List.length_take]; rfl)) ?_
       (with_reducible refine (laws_big.calls _ _ l0 false _ (Kd.C_below HRl0.out HB0.out) HCl0.out p0.out).mono ?_)
       rintro e w2 ⟨rfl, hb⟩
       refine ⟨_, rfl, ?_⟩
       replace hb := Drawn0.below hb
       replace HB0 := Aside0.mk (below_step HB0.out hb)
       clear hb)
    | ((with_reducible refine gate_callee (f := 16) rfl ?_)
       refine goesL_ (some 14) rfl rfl Try.func16 (by kernel_rfl) rfl #[.slice Al0 l0.length cl0] rfl (by (try simp only [List.map_toArray, List.map_cons, List.map_nil]); first | done | rfl | (simp only [List.length_drop, List.length_take]; rfl)) ?_
       have hh := p1
       obtain ⟨k3, e3⟩ := hh
       (with_reducible refine (spec_DrawSortNames.calls k3 _ _ l0 l _ (Kd.C_below HRl0.out HB0.out) HCl0.out e3).mono ?_)
       rintro e w4 ⟨v3_0, rfl, ho3_0, hb⟩
       refine ⟨_, rfl, ?_⟩
       clear e3
       replace HB0 := Aside0.mk (below_step HB0.out hb)
       clear hb
       have HB5 := Aside0.mk (Below.refl w4.heap.size w4)
       obtain ⟨A3_0, c3_0, ev_⟩ := Kd.R_slice ho3_0
       subst ev_
       have HR3_0 := Aside0.mk (Kd.R_reads' ho3_0).2.2
       have HC3_0 := Aside0.mk (Kd.R_reads' ho3_0).2.1
       clear ho3_0)
    | ((with_reducible refine gate_callee (f := 14) rfl ?_)
       refine goesL_ (some 16) rfl rfl Try.func14 (by kernel_rfl) rfl #[.slice A3_0 l.length c3_0] rfl (by (try simp only [List.map_toArray, List.map_cons, List.map_nil]); first | done | rfl | (simp only [List.length_drop, List.length_take]; rfl)) ?_
       have hh := p2
       obtain ⟨k6, e6⟩ := hh
       (with_reducible refine (impl_SortNames.calls k6 _ _ l s _ (Kd.C_below HR3_0.out HB5.out) HC3_0.out e6).mono ?_)
       rintro e w7 ⟨v6_0, rfl, ho6_0, hb⟩
       refine ⟨_, rfl, ?_⟩
       clear e6
       replace HB0 := Aside0.mk (below_step HB0.out hb)
       replace HB5 := Aside0.mk (below_step HB5.out hb)
       clear hb
       have HB8 := Aside0.mk (Below.refl w7.heap.size w7)
       obtain ⟨A6_0, c6_0, ev_⟩ := Kd.R_slice ho6_0
       subst ev_
       have HR6_0 := Aside0.mk (Kd.R_reads' ho6_0).2.2
       have HC6_0 := Aside0.mk (Kd.R_reads' ho6_0).2.1
       clear ho6_0)
    | ((with_reducible refine gate_callee (f := 17) rfl ?_)
       refine goesL_ (some 19) rfl rfl Try.func17 (by kernel_rfl) rfl #[.slice Al0 l0.length cl0] rfl (by (try simp only [List.map_toArray, List.map_cons, List.map_nil]); first | done | rfl | (simp only [List.length_drop, List.length_take]; rfl)) ?_
       have hh := p3
       obtain ⟨k9, e9⟩ := hh
       (with_reducible refine (spec_DrawUniteNames.calls k9 _ _ l0 a b _ (Kd.C_below HRl0.out HB0.out) HCl0.out e9).mono ?_)
       rintro e w10 ⟨v9_0, v9_1, rfl, ho9_0, ho9_1, hb⟩
       refine ⟨_, rfl, ?_⟩
       clear e9
       replace HB0 := Aside0.mk (below_step HB0.out hb)
       replace HB5 := Aside0.mk (below_step HB5.out hb)
       replace HB8 := Aside0.mk (below_step HB8.out hb)
       clear hb
       have HB11 := Aside0.mk (Below.refl w10.heap.size w10)
       obtain ⟨A9_0, c9_0, ev_⟩ := Kd.R_slice ho9_0
       subst ev_
       have HR9_0 := Aside0.mk (Kd.R_reads' ho9_0).2.2
       have HC9_0 := Aside0.mk (Kd.R_reads' ho9_0).2.1
       clear ho9_0
       obtain ⟨A9_1, c9_1, ev_⟩ := Kd.R_slice ho9_1
       subst ev_
       have HR9_1 := Aside0.mk (Kd.R_reads' ho9_1).2.2
       have HC9_1 := Aside0.mk (Kd.R_reads' ho9_1).2.1
       clear ho9_1)
    | ((with_reducible refine gate_callee (f := 9) rfl ?_)
       refine goesL_ (some 24) rfl rfl Try.func9 (by kernel_rfl) rfl #[.slice A9_0 a.length c9_0, .slice A9_1 b.length c9_1] rfl (by (try simp only [List.map_toArray, List.map_cons, List.map_nil]); first | done | rfl | (simp only [List.length_drop, List.length_take]; rfl)) ?_
       have hh := p4
       obtain ⟨k12, e12⟩ := hh
       (with_reducible refine (impl_UniteNames.calls k12 _ _ a _ _ b u _ (Kd.C_below HR9_0.out HB11.out) HC9_0.out (Kd.C_below HR9_1.out HB11.out) HC9_1.out e12).mono ?_)
       rintro e w13 ⟨v12_0, rfl, ho12_0, hb⟩
       refine ⟨_, rfl, ?_⟩
       clear e12
       replace HB0 := Aside0.mk (below_step HB0.out hb)
       replace HB5 := Aside0.mk (below_step HB5.out hb)
       replace HB8 := Aside0.mk (below_step HB8.out hb)
       replace HB11 := Aside0.mk (below_step HB11.out hb)
       clear hb
       have HB14 := Aside0.mk (Below.refl w13.heap.size w13)
       obtain ⟨A12_0, c12_0, ev_⟩ := Kd.R_slice ho12_0
       subst ev_
       have HR12_0 := Aside0.mk (Kd.R_reads' ho12_0).2.2
       have HC12_0 := Aside0.mk (Kd.R_reads' ho12_0).2.1
       clear ho12_0)
    | ((with_reducible refine gate_callee (f := 13) rfl ?_)
       refine goesL_ (some 27) rfl rfl Try.func13 (by kernel_rfl) rfl #[.slice A3_0 l.length c3_0] rfl (by (try simp only [List.map_toArray, List.map_cons, List.map_nil]); first | done | rfl | (simp only [List.length_drop, List.length_take]; rfl)) ?_
       have hh := p5
       obtain ⟨k15, e15⟩ := hh
       (with_reducible refine (spec_SortNames.calls k15 _ _ l s _ (Kd.C_below HR3_0.out HB5.out) HC3_0.out e15).mono ?_)
       rintro e w16 ⟨v15_0, rfl, ho15_0, hb⟩
       refine ⟨_, rfl, ?_⟩
       clear e15
       replace HB0 := Aside0.mk (below_step HB0.out hb)
       replace HB5 := Aside0.mk (below_step HB5.out hb)
       replace HB8 := Aside0.mk (below_step HB8.out hb)
       replace HB11 := Aside0.mk (below_step HB11.out hb)
       replace HB14 := Aside0.mk (below_step HB14.out hb)
       clear hb
       have HB17 := Aside0.mk (Below.refl w16.heap.size w16)
       obtain ⟨A15_0, c15_0, ev_⟩ := Kd.R_slice ho15_0
       subst ev_
       have HR15_0 := Aside0.mk (Kd.R_reads' ho15_0).2.2
       have HC15_0 := Aside0.mk (Kd.R_reads' ho15_0).2.1
       clear ho15_0)
    | ((with_reducible refine gate_callee (f := 18) rfl ?_)
       refine goesL_ (some 28) rfl rfl Try.func18 (by kernel_rfl) rfl #[.slice A6_0 s.length c6_0, .slice A15_0 s.length c15_0] rfl (by (try simp only [List.map_toArray, List.map_cons, List.map_nil]); first | done | rfl | (simp only [List.length_drop, List.length_take]; rfl)) ?_
       have hh := p6
       obtain ⟨k18, e18⟩ := hh
       (with_reducible refine (laws_sameTexts.calls k18 _ _ s _ _ s true _ (Kd.C_below HR6_0.out HB8.out) HC6_0.out (Kd.C_below HR15_0.out HB17.out) HC15_0.out e18).mono ?_)
       rintro e w19 ⟨rfl, hb⟩
       refine ⟨_, rfl, ?_⟩
       replace hb := Drawn0.below hb
       clear e18
       replace HB0 := Aside0.mk (below_step HB0.out hb)
       replace HB5 := Aside0.mk (below_step HB5.out hb)
       replace HB8 := Aside0.mk (below_step HB8.out hb)
       replace HB11 := Aside0.mk (below_step HB11.out hb)
       replace HB14 := Aside0.mk (below_step HB14.out hb)
       replace HB17 := Aside0.mk (below_step HB17.out hb)
       clear hb)
    | (go_at_call 7
       have hh := p7
       obtain ⟨k20, e20⟩ := hh
       (with_reducible refine (spec_UniteNames.calls k20 _ _ a _ _ b u _ (Kd.C_below HR9_0.out HB11.out) HC9_0.out (Kd.C_below HR9_1.out HB11.out) HC9_1.out e20).mono ?_)
       rintro e w21 ⟨v20_0, rfl, ho20_0, hb⟩
       clear e20
       replace HB0 := Aside0.mk (below_step HB0.out hb)
       replace HB5 := Aside0.mk (below_step HB5.out hb)
       replace HB8 := Aside0.mk (below_step HB8.out hb)
       replace HB11 := Aside0.mk (below_step HB11.out hb)
       replace HB14 := Aside0.mk (below_step HB14.out hb)
       replace HB17 := Aside0.mk (below_step HB17.out hb)
       clear hb
       have HB22 := Aside0.mk (Below.refl w21.heap.size w21)
       obtain ⟨A20_0, c20_0, ev_⟩ := Kd.R_slice ho20_0
       subst ev_
       have HR20_0 := Aside0.mk (Kd.R_reads' ho20_0).2.2
       have HC20_0 := Aside0.mk (Kd.R_reads' ho20_0).2.1
       clear ho20_0)
    | (go_at_call 18
       have hh := p8
       obtain ⟨k23, e23⟩ := hh
       (with_reducible refine (laws_sameTexts.calls k23 _ _ u _ _ u true _ (Kd.C_below HR12_0.out HB14.out) HC12_0.out (Kd.C_below HR20_0.out HB22.out) HC20_0.out e23).mono ?_)
       rintro e w24 ⟨rfl, hb⟩
       replace hb := Drawn0.below hb
       clear e23
       replace HB0 := Aside0.mk (below_step HB0.out hb)
       replace HB5 := Aside0.mk (below_step HB5.out hb)
       replace HB8 := Aside0.mk (below_step HB8.out hb)
       replace HB11 := Aside0.mk (below_step HB11.out hb)
       replace HB14 := Aside0.mk (below_step HB14.out hb)
       replace HB17 := Aside0.mk (below_step HB17.out hb)
       replace HB22 := Aside0.mk (below_step HB22.out hb)
       clear hb)
    | (go_at_call 19
       have hh := p9
       obtain ⟨k25, e25⟩ := hh
       (with_reducible refine (impl_AreAscending.calls k25 _ _ s true _ (Kd.C_below HR6_0.out HB8.out) HC6_0.out e25).mono ?_)
       rintro e w26 ⟨rfl, hb⟩
       replace hb := Drawn0.below hb
       clear e25
       replace HB0 := Aside0.mk (below_step HB0.out hb)
       replace HB5 := Aside0.mk (below_step HB5.out hb)
       replace HB8 := Aside0.mk (below_step HB8.out hb)
       replace HB11 := Aside0.mk (below_step HB11.out hb)
       replace HB14 := Aside0.mk (below_step HB14.out hb)
       replace HB17 := Aside0.mk (below_step HB17.out hb)
       replace HB22 := Aside0.mk (below_step HB22.out hb)
       clear hb))
  go_loopg [8] u.length (fun kq v8 w' => ∃ i : Int, v8 = .int .i64 i ∧ Aside0 (0 ≤ i ∧ i + kq = (u.length : Int)) ∧ Aside0 (Below W.heap.size W w') ∧ Aside0 (Below w4.heap.size w4 w') ∧ Aside0 (Below w7.heap.size w7 w') ∧ Aside0 (Below w10.heap.size w10 w') ∧ Aside0 (Below w13.heap.size w13 w') ∧ Aside0 (Below w16.heap.size w16 w') ∧ Aside0 (Below w21.heap.size w21 w'))
  case atStart => exact ⟨0, rfl, ⟨Int.le_refl _, by omega⟩, ⟨HB0.out⟩, ⟨HB5.out⟩, ⟨HB8.out⟩, ⟨HB11.out⟩, ⟨HB14.out⟩, ⟨HB17.out⟩, ⟨HB22.out⟩⟩
  case round =>
    obtain ⟨i, rfl, HI, HB0, HB5, HB8, HB11, HB14, HB17, HB22⟩ := hrel
    by_cases c14 : i < (u.length : Int)
    · have c14b0 : decide (i < (u.length : Int)) = true := decide_eq_true c14
      have c15b0 : decide (0 ≤ i) = true := decide_eq_true HI.out.1
      have q_ := Aside0.mk c14
      have p1_ := eq_true HI.out.1
      have q1_ := eq_true c14
      clear c14
      have hIp := hI i HI.out.1 q_.out
      obtain ⟨adz27, eAz27, hxz27_0⟩ := Kd.at_string (Kd.C_below HR12_0.out HB14.out) i HI.out.1 q_.out
      cases eAz27
      go_wp2_with (first
        | ((with_reducible refine gate_callee (f := 20) rfl ?_)
           refine goesL_ (some 54) rfl rfl Try.func20 (by kernel_rfl) rfl #[.slice (some adz27) u.length c12_0, .string (rdOf ByteArray.empty u i)] rfl (by (try simp only [List.map_toArray, List.map_cons, List.map_nil]); first | done | rfl | (simp only [List.length_drop, List.length_take]; rfl)) ?_
           have hh := hIp
           obtain ⟨k28, e28⟩ := hh
           (with_reducible refine (impl_IndexOf.calls k28 _ _ u (rdOf ByteArray.empty u i) i _ (Kd.C_below HR12_0.out HB14.out) HC12_0.out e28).mono ?_)
           rintro e w29 ⟨rfl, hb⟩
           refine ⟨_, rfl, ?_⟩
           replace hb := Drawn0.below hb
           clear e28
           clear hxz27_0
           replace HB0 := Aside0.mk (below_step HB0.out hb)
           replace HB5 := Aside0.mk (below_step HB5.out hb)
           replace HB8 := Aside0.mk (below_step HB8.out hb)
           replace HB11 := Aside0.mk (below_step HB11.out hb)
           replace HB14 := Aside0.mk (below_step HB14.out hb)
           replace HB17 := Aside0.mk (below_step HB17.out hb)
           replace HB22 := Aside0.mk (below_step HB22.out hb)
           clear hb))
      have hi_ := HI.out
      have hs_ := hw.out i HI.out.1 q_.out
      have hq_ := q_.out
      go_roundg (gk - 1)
      case measure => omega
      case rel => exact ⟨(wrap64 (i + 1)), rfl, ⟨by omega, by omega⟩, ⟨HB0.out⟩, ⟨HB5.out⟩, ⟨HB8.out⟩, ⟨HB11.out⟩, ⟨HB14.out⟩, ⟨HB17.out⟩, ⟨HB22.out⟩⟩
    · have c14b0 : decide (i < (u.length : Int)) = false := decide_eq_false c14
      obtain rfl : i = (u.length : Int) := by have := HI.out; omega
      clear c14 HI
      go_wp2_with (first
        | ((with_reducible refine gate_callee (f := 21) rfl ?_)
           refine goesL_ (some 58) rfl rfl Try.func21 (by kernel_rfl) rfl #[.slice Al0 l0.length cl0] rfl (by (try simp only [List.map_toArray, List.map_cons, List.map_nil]); first | done | rfl | (simp only [List.length_drop, List.length_take]; rfl)) ?_
           have hh := p10
           obtain ⟨k30, e30⟩ := hh
           (with_reducible refine (spec_DrawIsName.calls k30 _ _ l0 n _ (Kd.C_below HRl0.out HB0.out) HCl0.out e30).mono ?_)
           rintro e w31 ⟨rfl, hb⟩
           refine ⟨_, rfl, ?_⟩
           clear e30
           replace HB0 := Aside0.mk (below_step HB0.out hb)
           replace HB5 := Aside0.mk (below_step HB5.out hb)
           replace HB8 := Aside0.mk (below_step HB8.out hb)
           replace HB11 := Aside0.mk (below_step HB11.out hb)
           replace HB14 := Aside0.mk (below_step HB14.out hb)
           replace HB17 := Aside0.mk (below_step HB17.out hb)
           replace HB22 := Aside0.mk (below_step HB22.out hb)
           clear hb)
        | ((with_reducible refine gate_callee (f := 22) rfl ?_)
           refine goesL_ (some 60) rfl rfl Try.func22 (by kernel_rfl) rfl #[.slice Al0 l0.length cl0] rfl (by (try simp only [List.map_toArray, List.map_cons, List.map_nil]); first | done | rfl | (simp only [List.length_drop, List.length_take]; rfl)) ?_
           have hh := p11
           obtain ⟨k32, e32⟩ := hh
           (with_reducible refine (spec_DrawAreAscending.calls k32 _ _ l0 x _ (Kd.C_below HRl0.out HB0.out) HCl0.out e32).mono ?_)
           rintro e w33 ⟨v32_0, rfl, ho32_0, hb⟩
           refine ⟨_, rfl, ?_⟩
           clear e32
           replace HB0 := Aside0.mk (below_step HB0.out hb)
           replace HB5 := Aside0.mk (below_step HB5.out hb)
           replace HB8 := Aside0.mk (below_step HB8.out hb)
           replace HB11 := Aside0.mk (below_step HB11.out hb)
           replace HB14 := Aside0.mk (below_step HB14.out hb)
           replace HB17 := Aside0.mk (below_step HB17.out hb)
           replace HB22 := Aside0.mk (below_step HB22.out hb)
           clear hb
           have HB34 := Aside0.mk (Below.refl w33.heap.size w33)
           obtain ⟨A32_0, c32_0, ev_⟩ := Kd.R_slice ho32_0
           subst ev_
           have HR32_0 := Aside0.mk (Kd.R_reads' ho32_0).2.2
           have HC32_0 := Aside0.mk (Kd.R_reads' ho32_0).2.1
           clear ho32_0)
        | ((with_reducible refine gate_callee (f := 23) rfl ?_)
           refine goesL_ (some 62) rfl rfl Try.func23 (by kernel_rfl) rfl #[.string n] rfl (by (try simp only [List.map_toArray, List.map_cons, List.map_nil]); first | done | rfl | (simp only [List.length_drop, List.length_take]; rfl)) ?_
           have hh := p12
           obtain ⟨k35, e35⟩ := hh
           (with_reducible refine (impl_IsName.calls k35 n vN _ e35).mono ?_)
           rintro e w36 ⟨rfl, hb⟩
           refine ⟨_, rfl, ?_⟩
           replace hb := Drawn0.below hb
           clear e35
           replace HB0 := Aside0.mk (below_step HB0.out hb)
           replace HB5 := Aside0.mk (below_step HB5.out hb)
           replace HB8 := Aside0.mk (below_step HB8.out hb)
           replace HB11 := Aside0.mk (below_step HB11.out hb)
           replace HB14 := Aside0.mk (below_step HB14.out hb)
           replace HB17 := Aside0.mk (below_step HB17.out hb)
           replace HB22 := Aside0.mk (below_step HB22.out hb)
           replace HB34 := Aside0.mk (below_step HB34.out hb)
           clear hb)
        | ((with_reducible refine gate_callee (f := 24) rfl ?_)
           refine goesL_ (some 64) rfl rfl Try.func24 (by kernel_rfl) rfl #[.string n] rfl (by (try simp only [List.map_toArray, List.map_cons, List.map_nil]); first | done | rfl | (simp only [List.length_drop, List.length_take]; rfl)) ?_
           have hh := p13
           obtain ⟨k37, e37⟩ := hh
           (with_reducible refine (spec_IsName.calls k37 n vN _ e37).mono ?_)
           rintro e w38 ⟨rfl, hb⟩
           refine ⟨_, rfl, ?_⟩
           replace hb := Drawn0.below hb
           clear e37
           replace HB0 := Aside0.mk (below_step HB0.out hb)
           replace HB5 := Aside0.mk (below_step HB5.out hb)
           replace HB8 := Aside0.mk (below_step HB8.out hb)
           replace HB11 := Aside0.mk (below_step HB11.out hb)
           replace HB14 := Aside0.mk (below_step HB14.out hb)
           replace HB17 := Aside0.mk (below_step HB17.out hb)
           replace HB22 := Aside0.mk (below_step HB22.out hb)
           replace HB34 := Aside0.mk (below_step HB34.out hb)
           clear hb)
        | (go_at_call 19
           have hh := p14
           obtain ⟨k39, e39⟩ := hh
           (with_reducible refine (impl_AreAscending.calls k39 _ _ x vA _ (Kd.C_below HR32_0.out HB34.out) HC32_0.out e39).mono ?_)
           rintro e w40 ⟨rfl, hb⟩
           replace hb := Drawn0.below hb
           clear e39
           replace HB0 := Aside0.mk (below_step HB0.out hb)
           replace HB5 := Aside0.mk (below_step HB5.out hb)
           replace HB8 := Aside0.mk (below_step HB8.out hb)
           replace HB11 := Aside0.mk (below_step HB11.out hb)
           replace HB14 := Aside0.mk (below_step HB14.out hb)
           replace HB17 := Aside0.mk (below_step HB17.out hb)
           replace HB22 := Aside0.mk (below_step HB22.out hb)
           replace HB34 := Aside0.mk (below_step HB34.out hb)
           clear hb)
        | (go_at_call 25
           have hh := p15
           obtain ⟨k41, e41⟩ := hh
           (with_reducible refine (spec_AreAscending.calls k41 _ _ x vA _ (Kd.C_below HR32_0.out HB34.out) HC32_0.out e41).mono ?_)
           rintro e w42 ⟨rfl, hb⟩
           replace hb := Drawn0.below hb
           clear e41
           replace HB0 := Aside0.mk (below_step HB0.out hb)
           replace HB5 := Aside0.mk (below_step HB5.out hb)
           replace HB8 := Aside0.mk (below_step HB8.out hb)
           replace HB11 := Aside0.mk (below_step HB11.out hb)
           replace HB14 := Aside0.mk (below_step HB14.out hb)
           replace HB17 := Aside0.mk (below_step HB17.out hb)
           replace HB22 := Aside0.mk (below_step HB22.out hb)
           replace HB34 := Aside0.mk (below_step HB34.out hb)
           clear hb))
      go_ret
      exact ⟨rfl, HB0.out⟩
set_option maxHeartbeats 8000000 in
set_option maxRecDepth 100000 in
theorem FnNames_stop (l0 : List Int) 
    (p0 : Aside0 (laws_big.f l0 = some true))
    (W : World) {Al0 : Option Addr} {cl0 : Nat} (HRl0 : Kd.C (Kd.int .u8) W Al0 l0.length l0) (HCl0 : l0.length ≤ cl0) :
    Calls Try.prog 5 #[.slice Al0 l0.length cl0] W fun e w' => e = .returned (.bool true) ∧ Below W.heap.size W w' := by
  replace HRl0 := Aside0.mk HRl0
  replace HCl0 := Aside0.mk HCl0
  have HB0 := Aside0.mk (Below.refl W.heap.size W)
  go_enter Try.func5, Try.ntmps5
  go_wp2_with (first
    | ((with_reducible refine gate_callee (f := 15) rfl ?_)
       refine goesL_ (some 12) rfl rfl Try.func15 (by kernel_rfl) rfl #[.slice Al0 l0.length cl0] rfl (by (try simp only [List.map_toArray, List.map_cons, List.map_nil]); first | done | rfl | (simp only [List.length_drop, List.length_take]; rfl)) ?_
       (with_reducible refine (laws_big.calls _ _ l0 true _ (Kd.C_below HRl0.out HB0.out) HCl0.out p0.out).mono ?_)
       rintro e w2 ⟨rfl, hb⟩
       refine ⟨_, rfl, ?_⟩
       replace hb := Drawn0.below hb
       replace HB0 := Aside0.mk (below_step HB0.out hb)
       clear hb))
  go_ret
  exact ⟨rfl, HB0.out⟩
end Go.Proofs.Ytochgledinnlhaa.Pu
end
section
namespace Go.Proofs.Ytochgledinnlhaa.Pu
open Go.RowKit Go.Proofs.YtochgledinnlhaaW.PrintWords Go.Proofs.YtochgledinnlhaaW.PrintLast Go.Proofs.Ytochgledinnlhaa.Pl Go.Proofs.Ytochgledinnlhaa.Ext
set_option linter.unusedVariables false
set_option linter.unusedSimpArgs false
theorem FnNames_told (l0 : List Int) (W : World) {A : Option Addr} {c : Nat} (hr : Kd.C (Kd.int .u8) W A l0.length l0) (hc : l0.length ≤ c) :
    Calls Try.prog 5 #[.slice A l0.length c] W fun e w' => e = .returned (.bool true) ∧ Below W.heap.size W w' := by
  by_cases hb : l0.length ≤ 1048576
  · obtain ⟨xs, e1, a1, b1⟩ := DrawSortNames_ev l0 hb
    obtain ⟨as_, bs_, e2, a2, b2, a3, b3⟩ := DrawUniteNames_ev l0 hb
    obtain ⟨n, e3, hn⟩ := DrawIsName_ev l0 hb
    obtain ⟨x, e4, hx⟩ := DrawAreAscending_ev l0 hb
    have hs := srt_len xs
    have hu := uni_len (as_ ++ bs_) []
    rw [List.length_append, List.length_nil] at hu
    have hnd := uni_nodup (as_ ++ bs_) [] List.nodup_nil
    refine FnNames_walk l0 (l := xs) (s := srt xs) (a := as_) (b := bs_) (u := uni [] (as_ ++ bs_)) (x := x) (n := n) (vN := isName n) (vA := asc x 1 (x.length - 1))
      (hw := ⟨fun i h0 h1 => w64 (by omega) (by omega)⟩) (hI := fun i h0 h1 => ?_)
      (p0 := ⟨by simp [laws_big.f]; omega⟩) (p1 := e1.rounds) (p2 := ⟨0, ?_⟩) (p3 := e2.rounds) (p4 := ⟨0, ?_⟩) (p5 := (spec_SortNames_ev xs (by omega)).rounds) (p6 := (sameTexts_self _ (by omega)).rounds) (p7 := (spec_UniteNames_ev as_ bs_ (by omega)).rounds) (p8 := (sameTexts_self _ (by omega)).rounds)
      (p9 := ?_) (p10 := e3.rounds) (p11 := e4.rounds) (p12 := (impl_IsName_ev n hn).rounds) (p13 := (spec_IsName_ev n hn).rounds) (p14 := (impl_AreAscending_ev x (by omega)).rounds) (p15 := (spec_AreAscending_ev x (by omega)).rounds) W hr hc
    · obtain ⟨k, rfl⟩ : ∃ k : Nat, i = k := ⟨i.toNat, by omega⟩
      exact (IndexOf_at _ (by omega) hnd k (by omega)).rounds
    · unfold impl_SortNames.f
      rw [if_pos (by omega), sorted_srt]
    · have hh : as_.length + bs_.length < 8796093022208 ∧ ∀ s ∈ as_ ++ bs_, s.size ≤ maxLen := by
        refine ⟨by omega, fun s hs => ?_⟩
        have h2 : s.size ≤ 2 := by
          rcases List.mem_append.1 hs with h | h
          · exact b2 s h
          · exact b3 s h
        unfold maxLen
        omega
      unfold impl_UniteNames.f
      rw [if_pos hh]
    · have h1 := impl_AreAscending_ev (srt xs) (by omega)
      have h2 : asc (srt xs) 1 ((srt xs).length - 1) = true := by
        by_cases h0 : (srt xs).length = 0
        · rw [h0]; rfl
        · exact asc_of (srt xs) (fold_ins xs [] List.Pairwise.nil).1 _ 1 (by omega) (by omega)
      rw [h2] at h1
      exact h1.rounds
  · exact FnNames_stop l0 (p0 := ⟨by simp [laws_big.f]; omega⟩) W hr hc

end Go.Proofs.Ytochgledinnlhaa.Pu
end
section
namespace Go.Proofs.Ytochgledinnlhaa.Rd
open Go.RowKit Go.Proofs.YtochgledinnlhaaW.PrintWords
set_option linter.unusedVariables false
/-- What reads as_ data of type t, by at most n steps, is of kind d and meets q. -/
def Op (P : Program) (n : Nat) (t : TypeId) {α : Type} (d : Kd α) (q : α → Prop) : Prop :=
  ∀ (H : Type) (enc : TypeId × Value → H) (w : World) (base : Nat) (spare : Nat → Bool) (held : Bool) (fuel : Nat) (cs : List Value) (x : DataW H × List MemPlace),
    fuel ≤ n → DataW.trod enc P w base spare held fuel t cs = some x → ∃ y, d.K w y cs ∧ q y
theorem Op.imp {P : Program} {n : Nat} {t : TypeId} {α : Type} {d d' : Kd α} {q q' : α → Prop} (h1 : ∀ w y cs, d.K w y cs → d'.K w y cs) (h2 : ∀ y, q y → q' y) (h : Op P n t d q) : Op P n t d' q' := by
  intro H enc w base spare held fuel cs x hf hx
  obtain ⟨y, hy, hq⟩ := h H enc w base spare held fuel cs x hf hx
  exact ⟨y, h1 _ _ _ hy, h2 _ hq⟩
theorem Op.int {P : Program} {n : Nat} {t : TypeId} {k : IntKind} (ht : P.underlying t = some (.int k)) : Op P n t (Kd.int k) (fun x => (Lit.int k x).wf = true) := by
  intro H enc w base spare held fuel cs x hf hx
  obtain ⟨m, rfl, rfl, hw⟩ := DataW.trod_int ht hx
  exact ⟨m, rfl, hw⟩
theorem Op.bool {P : Program} {n : Nat} {t : TypeId} (ht : P.underlying t = some .bool) : Op P n t Kd.bool (fun _ => True) := by
  intro H enc w base spare held fuel cs x hf hx
  obtain ⟨m, rfl, rfl⟩ := DataW.trod_bool ht hx
  exact ⟨m, rfl, trivial⟩
theorem trod_string' {H : Type} {enc : TypeId × Value → H} {P : Program} {w : World} {base : Nat} {spare : Nat → Bool} {held : Bool} {fuel : Nat} {t : TypeId} {cs : List Value} {x : DataW H × List MemPlace}
    (ht : P.underlying t = some .string) (h : DataW.trod enc P w base spare held fuel t cs = some x) : ∃ s, cs = [.string s] ∧ s.size ≤ maxLen := by
  cases fuel with
  | zero => simp [DataW.trod] at h
  | succ n =>
    unfold DataW.trod at h
    rw [ht] at h
    split at h <;> simp_all
theorem Op.string {P : Program} {n : Nat} {t : TypeId} (ht : P.underlying t = some .string) : Op P n t Kd.string (fun s => s.size ≤ maxLen) := by
  intro H enc w base spare held fuel cs x hf hx
  obtain ⟨m, rfl, hm⟩ := trod_string' ht hx
  exact ⟨m, rfl, hm⟩
theorem add_add (a : Addr) (i j : Nat) : (a.add i).add j = a.add (i + j) := by
  unfold Addr.add
  by_cases h1 : i = 0 <;> by_cases h2 : j = 0 <;> simp [h1, h2, Nat.add_assoc]
theorem choose_list {α : Type} {p : Nat → α → Prop} (n : Nat) (h : ∀ i, i < n → ∃ y, p i y) : ∃ ys : List α, ys.length = n ∧ ∀ i y, ys[i]? = some y → p i y := by
  induction n with
  | zero => exact ⟨[], rfl, fun i y hy => by simp at hy⟩
  | succ n ih =>
    obtain ⟨ys, hl, hy⟩ := ih (fun i hi => h i (by omega))
    obtain ⟨z, hz⟩ := h n (by omega)
    refine ⟨ys ++ [z], by simp [hl], fun i y hi => ?_⟩
    by_cases hlt : i < n
    · rw [List.getElem?_append_left (by omega)] at hi
      exact hy i y hi
    · by_cases he : i = n
      · subst he
        rw [List.getElem?_append_right (by omega)] at hi
        simp [hl] at hi
        subst hi
        exact hz
      · rw [List.getElem?_eq_none (by simp; omega)] at hi
        cases hi
theorem Op.slice {P : Program} {n : Nat} {t e : TypeId} {α : Type} {d : Kd α} {q : α → Prop} (ht : P.underlying t = some (.slice e)) (hsz : P.cellsOf e = d.sz) (h : ∀ k, k < n → Op P k e d q) :
    Op P n t (Kd.slice e d) (fun xs => xs.length ≤ maxLen ∧ ∀ y ∈ xs, q y) := by
  intro H enc w base spare held fuel cs x hf hx
  rcases DataW.trod_slice ht hx with ⟨rfl, _⟩ | ⟨a, len, cap, elems, rest, m, hm, rfl, _, hb, hl, hc, hlen, hel, _, _⟩
  · exact ⟨[], ⟨none, 0, rfl, Nat.le_refl _, ⟨rfl, by simp, fun hp => absurd hp (by simp)⟩⟩, by simp, fun y hy => by simp at hy⟩
  · have hone : ∀ i, i < len → ∃ y, (∃ c, c.length = d.sz ∧ d.K w y c ∧ ∀ j u, c[j]? = some u → w.cell? (a.add (i * d.sz + j)) = some u) ∧ q y := by
      intro i hi
      have h1 := hel i hi
      rw [List.getElem?_eq_getElem (by omega)] at h1
      obtain ⟨c, hc1, hc2⟩ := Option.bind_eq_some_iff.1 h1
      obtain ⟨y, hy, hq⟩ := h m (by omega) H enc w base spare held m c _ (Nat.le_refl _) hc2
      obtain ⟨_, hcl, hcells⟩ := World.cells?_some hc1
      refine ⟨y, ⟨c, by omega, hy, fun j u hu => ?_⟩, hq⟩
      have hj : j < P.cellsOf e := by
        rw [← hcl]
        exact (List.getElem?_eq_some_iff.1 hu).1
      have := hcells j hj
      rw [add_add, hsz] at this
      rw [this, hu]
    obtain ⟨ys, hyl, hys⟩ := choose_list len hone
    have hmx : len ≤ 9223372036854775807 := by
      have : cap ≤ 9223372036854775807 := hc
      omega
    refine ⟨ys, ⟨some a, cap, by rw [hyl], by omega, ⟨rfl, by omega, fun _ => ⟨a, rfl, fun j p hj => (hys j p hj).1⟩⟩⟩, by rw [hyl]; exact hmx, fun y hy => ?_⟩
    obtain ⟨i, hi, rfl⟩ := List.getElem_of_mem hy
    exact (hys i _ (List.getElem?_eq_getElem hi)).2
/-- Fields, from an offset on. -/
def OpF (P : Program) (n : Nat) (fs : List Field) (off : Nat) {α : Type} (d : Kd α) (q : α → Prop) : Prop :=
  ∀ (H : Type) (enc : TypeId × Value → H) (w : World) (base : Nat) (spare : Nat → Bool) (held : Bool) (fuel : Nat) (cs : List Value), fuel ≤ n →
    (∀ f ∈ fs, ∃ x, DataW.trod enc P w base spare held fuel f.type ((cs.drop f.offset).take (P.cellsOf f.type)) = some x) → cs.length = off + d.sz → ∃ y, d.K w y (cs.drop off) ∧ q y
theorem OpF.one {P : Program} {n : Nat} {f : Field} {off : Nat} {α : Type} {d : Kd α} {q : α → Prop} (ho : f.offset = off) (hsz : P.cellsOf f.type = d.sz) (h : Op P n f.type d q) : OpF P n [f] off d q := by
  intro H enc w base spare held fuel cs hf hx hl
  obtain ⟨x, hx⟩ := hx f (List.mem_singleton.2 rfl)
  rw [ho, hsz, List.take_of_length_le (by rw [List.length_drop]; omega)] at hx
  exact h H enc w base spare held fuel _ x hf hx
theorem OpF.cons {P : Program} {n : Nat} {f : Field} {fs : List Field} {off : Nat} {α β : Type} {a : Kd α} {b : Kd β} {qa : α → Prop} {qb : β → Prop} (ho : f.offset = off) (hsz : P.cellsOf f.type = a.sz) (h : Op P n f.type a qa) (hr : OpF P n fs (off + a.sz) b qb) :
    OpF P n (f :: fs) off (Kd.pair a b) (fun y => qa y.1 ∧ qb y.2) := by
  intro H enc w base spare held fuel cs hf hx hl
  have hl' : cs.length = off + (a.sz + b.sz) := hl
  obtain ⟨x, h1⟩ := hx f (List.mem_cons_self ..)
  rw [ho, hsz] at h1
  obtain ⟨y, hy, hq⟩ := h H enc w base spare held fuel _ x hf h1
  obtain ⟨z, hz, hq2⟩ := hr H enc w base spare held fuel cs hf (fun g hg => hx g (List.mem_cons_of_mem _ hg)) (by omega)
  refine ⟨(y, z), ⟨_, _, ?_, hy, hz⟩, hq, hq2⟩
  rw [← List.drop_drop, List.take_append_drop]
theorem Op.struct {P : Program} {n : Nat} {t : TypeId} {fs : Array Field} {α : Type} {d : Kd α} {q : α → Prop} (ht : P.underlying t = some (.struct fs)) (hsz : P.cellsOf t = d.sz) (h : ∀ k, k < n → OpF P k fs.toList 0 d q) : Op P n t d q := by
  intro H enc w base spare held fuel cs x hf hx
  obtain ⟨xs, m, hm, _, hl, hxl, hfs⟩ := DataW.trod_struct ht hx
  have hr := h m (by omega) H enc w base spare held m cs (Nat.le_refl _) (fun f hfm => ?_) (by omega)
  · simpa using hr
  · obtain ⟨i, hi, rfl⟩ := List.getElem_of_mem hfm
    have hi' : i < fs.size := by simpa using hi
    have h2 := hfs i _ (Array.getElem?_eq_getElem hi')
    rw [List.getElem?_eq_getElem (by omega)] at h2
    exact ⟨_, by simpa using h2⟩
/-- The same at whatever fuel. -/
theorem Op.open_ {P : Program} {t : TypeId} {α : Type} {d : Kd α} {q : α → Prop} (h : ∀ n, Op P n t d q) {H : Type} {enc : TypeId × Value → H} {w : World} {base : Nat} {spare : Nat → Bool} {held : Bool} {v : Value} {x : DataW H} {ps : List MemPlace}
    (ht : DataW.Trod enc P w base spare held t v x ps) : ∃ y, d.K w y v.cells.toList ∧ q y := by
  obtain ⟨fuel, hf⟩ := ht
  exact h fuel H enc w base spare held fuel _ _ (Nat.le_refl _) hf
end Go.Proofs.Ytochgledinnlhaa.Rd
end
