/- Marks of texts: what the laws' markText, markStringS and heldStringS come to. -/
import Derived.Test.YtochgledinnlhaaZUniteNamesPu1M
import Derived.Test.YtochgledinnlhaaZUniteNamesWLastM
import Derived.StringKeys
import Derived.Lib.AppendZerosOnto
import Derived.Sort.Walk0
section
namespace Go.Proofs.Ytochgledinnlhaa.Pu
open Go.RowKit Go.Proofs.YtochgledinnlhaaW.PrintWords Go.Proofs.YtochgledinnlhaaW.PrintLast Go.Proofs.Ytochgledinnlhaa.Pl Go.Proofs.Ytochgledinnlhaa.Ext
set_option linter.unusedVariables false
set_option linter.unusedSimpArgs false
theorem strOne (n : Int) : (strOfNums [n]).size = 1 := by simp [strOfNums]; rfl
theorem markLoop_ex : ∀ (m : Nat) (x : Int) (s : ByteArray), 0 ≤ x → x ≤ 4611686018427387904 → x < (10 : Int) ^ m → s.size + m ≤ 1000 → ∃ r, Ev (fun k => laws_markText.l0 k x s) r := by
  intro m
  induction m with
  | zero =>
    intro x s h0 hb h1 hs
    refine ⟨(⟨#[109]⟩ : ByteArray) ++ s, Ev.up ?_⟩
    simp only [laws_markText.l0]
    exact Ev.neg (by simp at h1; omega) (Ev.pos (by omega) (Ev.now _))
  | succ m ih =>
    intro x s h0 hb h1 hs
    by_cases hx : x > 0
    · have ht : Int.tdiv x 10 = x / 10 := Int.tdiv_eq_ediv_of_nonneg h0
      have hw : wrap64 (Int.tdiv x 10) = x / 10 := by rw [ht]; exact w64 (by omega) (by omega)
      have hl : x / 10 < (10 : Int) ^ m := by
        rw [Int.pow_succ] at h1
        omega
      obtain ⟨r, hr⟩ := ih (x / 10) (strOfNums [(wrap64 (48 + (Int.tmod x 10))) % 256] ++ s) (by omega) (by omega) hl (by rw [ByteArray.size_append, strOne]; omega)
      refine ⟨r, Ev.up ?_⟩
      simp only [laws_markText.l0]
      refine Ev.pos hx ?_
      refine Ev.none_bind (Ev.pos (by rw [strOne]; omega) ?_)
      rw [hw]
      exact hr
    · refine ⟨(⟨#[109]⟩ : ByteArray) ++ s, Ev.up ?_⟩
      simp only [laws_markText.l0]
      exact Ev.neg hx (Ev.pos (by omega) (Ev.now _))
theorem markText_ex (a : Int) (hb : a ≤ 4611686018427387904) : ∃ r, Ev (fun k => laws_markText.f k a) r := by
  by_cases h : a ≤ 0
  · refine ⟨(⟨#[109, 48]⟩ : ByteArray), ?_⟩
    simp only [laws_markText.f]
    exact Ev.pos h (Ev.now _)
  · obtain ⟨r, hr⟩ := markLoop_ex 19 a ⟨#[]⟩ (by omega) hb (by omega) (by decide)
    refine ⟨r, ?_⟩
    simp only [laws_markText.f]
    exact Ev.neg h hr
open Classical in
/-- The text that marks k. -/
noncomputable def mt (a : Int) : ByteArray := if h : ∃ r, Ev (fun k => laws_markText.f k a) r then h.choose else ⟨#[]⟩
theorem mt_ev (a : Int) (hb : a ≤ 4611686018427387904) : Ev (fun k => laws_markText.f k a) (mt a) := by
  have h := markText_ex a hb
  unfold mt
  rw [dif_pos h]
  exact h.choose_spec
noncomputable def mtS (a : Int) : Nat → List ByteArray
  | 0 => []
  | n + 1 => mt a :: mtS (a + 1) n
theorem mtS_length : ∀ (n : Nat) (a : Int), (mtS a n).length = n
  | 0, _ => rfl
  | n + 1, a => by simp [mtS, mtS_length n]
theorem markLoopS_ev (xs : List ByteArray) (hx : xs.length ≤ 1048576) : ∀ (m i : Nat) (out : List ByteArray) (a : Int), i + m = xs.length → out.length = xs.length → 0 ≤ a → a + m ≤ 4611686018427387904 →
    Ev (fun k => laws_markStringS.l0 k out a (i : Int)) (a + m, out.take i ++ mtS a m) := by
  intro m
  induction m with
  | zero =>
    intro i out a hi hl h0 hb
    refine Ev.up ?_
    simp only [laws_markStringS.l0]
    refine Ev.neg (by omega) (Ev.const ?_)
    rw [List.take_of_length_le (by omega)]
    simp [mtS]
  | succ m ih =>
    intro i out a hi hl h0 hb
    refine Ev.up ?_
    simp only [laws_markStringS.l0]
    refine Ev.pos (by omega) (Ev.bind (mt_ev a (by omega)) (Ev.pos (by omega) ?_))
    rw [w1' (show i < xs.length by omega) hx, show wrap64 (a + 1) = a + 1 from w64 (by omega) (by omega)]
    refine Ev.eq (ih (i + 1) (out.set i (mt a)) (a + 1) (by omega) (by simpa using hl) (by omega) (by omega)) ?_
    rw [List.take_succ_eq_append_getElem (by simp; omega)]
    simp only [List.getElem_set_self, List.take_set_of_le (Nat.le_refl i), mtS, List.append_assoc, List.singleton_append, Prod.mk.injEq, and_true]
    omega
theorem markStringS_ev (xs : List ByteArray) (hx : xs.length ≤ 1048576) (a : Int) (h0 : 0 ≤ a) (hb : a + xs.length ≤ 4611686018427387904) : Ev (fun k => laws_markStringS.f k xs a) (a + xs.length, mtS a xs.length) := by
  simp only [laws_markStringS.f]
  simpa using markLoopS_ev xs hx xs.length 0 xs a (by omega) rfl h0 hb
theorem mtS_getD (d : ByteArray) : ∀ (n i : Nat) (a : Int), i < n → (mtS a n).getD i d = mt (a + i)
  | 0, i, _, h => by omega
  | n + 1, 0, a, _ => by simp [mtS]
  | n + 1, i + 1, a, h => by
    have := mtS_getD d n i (a + 1) (by omega)
    simp only [mtS, List.getD_cons_succ, this]
    congr 1
    omega
theorem heldStringS_ev (n : Nat) (hn : n ≤ 1048576) (a : Int) (h0 : 0 ≤ a) (hb : a + n ≤ 4611686018427387904) : Ev (fun k => laws_heldStringS.f k (mtS a n) a) (a + n) := by
  suffices h : ∀ (m i : Nat), i + m = n → Ev (fun k => laws_heldStringS.l0 k (mtS a n) (a + i) (i : Int)) (a + n) by
    simp only [laws_heldStringS.f]
    simpa using h n 0 (by omega)
  intro m
  induction m with
  | zero =>
    intro i hi
    refine Ev.up ?_
    simp only [laws_heldStringS.l0, mtS_length]
    exact Ev.neg (by omega) (Ev.const (by omega))
  | succ m ih =>
    intro i hi
    refine Ev.up ?_
    simp only [laws_heldStringS.l0, mtS_length]
    refine Ev.pos (by omega) (Ev.pos (by omega) (Ev.bind (mt_ev (a + i) (by omega)) (Ev.pos ?_ ?_)))
    · rw [rdOf_str, mtS_getD _ n i a (by omega)]
    · rw [w1' (show i < n by omega) hn, show wrap64 (a + i + 1) = a + ((i + 1 : Nat) : Int) from by rw [w64 (by omega) (by omega)]; omega]
      exact ih (i + 1) (by omega)
/-- markStringS at a row that it is given to write. -/
theorem markStringS_own (xs : List ByteArray) (hx : xs.length ≤ 1048576) (a : Int) (h0 : 0 ≤ a) (hb : a + xs.length ≤ 4611686018427387904) (v : Value) (ok : Nat → Prop) (w0 w : World) (hB : Below w0.heap.size w0 w) (ho : Kd.R Kd.string 9 w w0.heap.size ok v xs) :
    Calls Try.prog 11 #[v, .int .i64 a] w fun e w' => e = .returned (.int .i64 (a + xs.length)) ∧ Kd.R Kd.string 9 w' w0.heap.size ok v (mtS a xs.length) ∧ Below w0.heap.size w0 w' ∧ Kept w w' ok := by
  obtain ⟨K, hK⟩ := markStringS_ev xs hx a h0 hb
  refine (laws_markStringS.calls K ok v xs a _ _ w0 w hB ho (hK K (Nat.le_refl K))).mono ?_
  rintro e w' ⟨he, hr, hb', hk⟩
  exact ⟨he, Kd.R_reok rfl hr ho.1, hb', hk⟩
end Go.Proofs.Ytochgledinnlhaa.Pu
end
section
namespace Go.Proofs.Ytochgledinnlhaa.Sm
open Go.RowKit Go.Proofs.YtochgledinnlhaaW.PrintWords Go.Proofs.Ytochgledinnlhaa.Ext
set_option linter.unusedVariables false
/-- How the elements of a type stand in memory, and how they read. -/
structure El (P : Program) (e : TypeId) (α : Type) where
  enc : α → Value
  lit : α → Lit
  ok : α → Prop
  zero : α
  into : ∀ x, ok x → plainElem (H := Unit) P e (enc x) = some (.lit (lit x), [])
  inv : ∀ v z, plainElem (H := Unit) P e v = some z → ∃ x, v = enc x ∧ z = (.lit (lit x), []) ∧ ok x
  inj : ∀ x y, lit x = lit y → x = y
  zok : ok zero
  zrun : ∀ w, (zeroValue e).run P w = .ok (enc zero) w
def elBool {P : Program} {e : TypeId} (he : P.underlying e = some .bool) (hz : ∀ w, (zeroValue e).run P w = .ok (.bool false) w) : El P e Bool where
  enc := .bool
  lit := .bool
  ok := fun _ => True
  zero := false
  into := fun x _ => plainElem_bool he x
  inv := by
    intro v z h
    unfold plainElem at h
    rw [he] at h
    cases v <;> simp at h
    exact ⟨_, rfl, h.symm, trivial⟩
  inj := fun x y h => by injection h
  zok := trivial
  zrun := hz
section
variable {P : Program} {k e : TypeId} {α : Type} {E : El P e α}
/-- Block b is a map of at most n entries, from string (type k), that reads as_ f. -/
def SMap (E : El P e α) (k : TypeId) (W : World) (b n : Nat) (f : ByteArray → α) : Prop :=
  ∃ D : DataW Unit, W.ownsMap P k (plainElem P e) b n D ∧ Maps.IsMap D ∧ ∀ s : ByteArray, D.atKey (.string s.data.toList) (.lit (E.lit E.zero)) = .lit (E.lit (f s))
def put (f : ByteArray → α) (s : ByteArray) (v : α) : ByteArray → α := fun x => if x = s then v else f x
theorem SMap.kept {W W' : World} {b n : Nat} {f : ByteArray → α} (h : SMap E k W b n f) {row : Option Nat} (hg : W.grownBy W' row) (hne : some b ≠ row) : SMap E k W' b n f := by
  obtain ⟨D, h1, h2, h3⟩ := h
  exact ⟨D, h1.kept hg hne, h2, h3⟩
theorem SMap.lt {W : World} {b n : Nat} {f : ByteArray → α} (h : SMap E k W b n f) : b < W.heap.size := by
  obtain ⟨D, h1, _⟩ := h
  exact h1.lt
theorem SMap.at {W W' : World} {b n : Nat} {f : ByteArray → α} (h : SMap E k W b n f) (hb : W'.heap[b]? = W.heap[b]?) : SMap E k W' b n f := by
  obtain ⟨D, ⟨es, c, h1, h5⟩, h2, h3⟩ := h
  exact ⟨D, ⟨es, c, hb.trans h1, h5⟩, h2, h3⟩
theorem SMap.below {W W' : World} {b n : Nat} {f : ByteArray → α} (h : SMap E k W b n f) (hb : Below W.heap.size W W') : SMap E k W' b n f := h.at (hb.block _ h.lt)
theorem SMap.mono {W : World} {b n m : Nat} {f : ByteArray → α} (h : SMap E k W b n f) (hn : n ≤ m) : SMap E k W b m f := by
  obtain ⟨D, h1, h2, h3⟩ := h
  exact ⟨D, h1.mono hn, h2, h3⟩
theorem SMap.congr {W : World} {b n : Nat} {f g : ByteArray → α} (h : SMap E k W b n f) (hfg : ∀ s, f s = g s) : SMap E k W b n g := (funext hfg : f = g) ▸ h
theorem toList_inj {a b : ByteArray} (h : a.data.toList = b.data.toList) : a = b := by
  cases a; cases b
  simp only [ByteArray.mk.injEq]
  exact Array.toList_inj.1 h
theorem SMap.put_ {W : World} {b n : Nat} {f : ByteArray → α} {t : TypeId} (h : SMap E k W b n f) (ht : P.underlying t = some (.map k e)) (hk : P.underlying k = some .string) (hn : n < maxLen) (s : ByteArray) (hs : s.size ≤ maxLen) (v : α) (hv : E.ok v) :
    ∃ w', (Instr.mapUpdate t (.map (some b)) (.string s) (E.enc v)).run P W = .ok () w' ∧ SMap E k w' b (n + 1) (put f s v) ∧ W.grownBy w' (some b) := by
  obtain ⟨D, h1, h2, h3⟩ := h
  obtain ⟨w', hrun, r1, r2⟩ := h1.update (Maps.string_keyed hk) ht hn (WideMaps.keyOf_string_mk hk hs) (E.into v hv)
  refine ⟨w', hrun, ⟨_, r1, h2.put _ _, fun x => ?_⟩, r2⟩
  unfold put
  by_cases hx : x = s
  · subst hx
    rw [if_pos rfl]
    exact Maps.atKey_put_same h2 (by simp [WideAt.IsKeyLit]) _ _
  · rw [if_neg hx, Maps.atKey_put_other (fun hl => hx (toList_inj (by injection hl)))]
    exact h3 x
theorem SMap.get_ {W : World} {b n : Nat} {f : ByteArray → α} {t : TypeId} (h : SMap E k W b n f) (ht : P.underlying t = some (.map k e)) (hk : P.underlying k = some .string) (s : ByteArray) (hs : s.size ≤ maxLen) :
    (Instr.lookup t (.map (some b)) (.string s) false).run P W = .ok (E.enc (f s)) W ∧ E.ok (f s) := by
  obtain ⟨D, h1, h2, h3⟩ := h
  obtain ⟨v, ps, hrun, hR⟩ := h1.lookup (Maps.string_keyed hk) ht (E.zrun W) (E.into E.zero E.zok) (WideMaps.keyOf_string_mk hk hs)
  rw [h3 s] at hR
  obtain ⟨x, rfl, hz, hx⟩ := E.inv _ _ hR
  simp only [Prod.mk.injEq] at hz
  have : E.lit (f s) = E.lit x := by have := hz.1; injection this
  obtain rfl := E.inj _ _ this
  exact ⟨hrun, hx⟩
end
section
variable {P : Program} {k e : TypeId} {α : Type} {E : El P e α} {ops : Array Oper} {Q : Exit → Act → World → Prop}
theorem smake_event {rest : List Oper} {o : Oper} {a : Act} {W : World} (hg : o.guard = none) {t : TypeId} (hop : o.op = .makeMap t none) (E : El P e α) (k : TypeId)
    (h : ∀ gm w2, gm = W.heap.size → SMap E k w2 gm 0 (fun _ => E.zero) → Below W.heap.size W w2 → wpList P ops Q rest (a.put o.dst (.map (some gm))) w2) : wpList P ops Q (o :: rest) a W := by
  refine wpList_plain hg fun K hK => ?_
  unfold Oper.wp
  simp only [execOp, hop]
  simp [run_makeMap, Result.andThen]
  exact hK _ _ (h _ _ rfl ⟨.map [], World.ownsMap_made W P k _, Maps.isMap_empty, fun c => rfl⟩ (below_alloc (Below.refl _ _) _))
theorem sput_event {rest : List Oper} {o : Oper} {a : Act} {W : World} (hg : o.guard = none) {t : TypeId} {m x v : Operand} (hop : o.op = .mapUpdate t m x v) (ht : P.underlying t = some (.map k e)) (hk : P.underlying k = some .string)
    {b n : Nat} {f : ByteArray → α} (hm : a.eval m = .map (some b)) (hown : SMap E k W b n f) (hn : n < maxLen) (key : ByteArray) (val : α) (hx : a.eval x = .string key) (hv : a.eval v = E.enc val) (hkey : key.size ≤ maxLen) (hval : E.ok val)
    (h : ∀ w2, SMap E k w2 b (n + 1) (put f key val) → W.grownBy w2 (some b) → wpList P ops Q rest (a.put o.dst undef) w2) : wpList P ops Q (o :: rest) a W := by
  refine wpList_plain hg fun K' hK' => ?_
  obtain ⟨w', hrun, r1, r2⟩ := hown.put_ ht hk hn key hkey val hval
  unfold Oper.wp
  simp [execOp, hop, hm, hx, hv, hrun, Result.andThen]
  exact hK' _ _ (h w' r1 r2)
theorem sget_event {rest : List Oper} {o : Oper} {a : Act} {W : World} (hg : o.guard = none) {t : TypeId} {m x : Operand} (hop : o.op = .lookup t m x false) (ht : P.underlying t = some (.map k e)) (hk : P.underlying k = some .string)
    {b n : Nat} {f : ByteArray → α} (hm : a.eval m = .map (some b)) (hown : SMap E k W b n f) (key : ByteArray) (hx : a.eval x = .string key) (hkey : key.size ≤ maxLen)
    (h : wpList P ops Q rest (a.put o.dst (E.enc (f key))) W) : wpList P ops Q (o :: rest) a W := by
  refine wpList_plain hg fun K' hK' => ?_
  obtain ⟨hrun, _⟩ := hown.get_ ht hk key hkey
  unfold Oper.wp
  simp [execOp, hop, hm, hx, hrun, Result.andThen]
  exact hK' _ _ h
end
end Go.Proofs.Ytochgledinnlhaa.Sm
end
section
namespace Go.Proofs.Ytochgledinnlhaa.Pu
open Go.RowKit Go.Proofs.YtochgledinnlhaaW.PrintWords Go.Proofs.YtochgledinnlhaaW.PrintLast Go.Proofs.Ytochgledinnlhaa.Pl Go.Proofs.Ytochgledinnlhaa.Ext
set_option linter.unusedVariables false
set_option linter.unusedSimpArgs false
theorem zeroB (w : World) : (zeroValue 4).run Try.prog w = .ok (.bool false) w := by kernel_rfl
noncomputable def eB : Sm.El Try.prog 4 Bool := Sm.elBool Try.underlying4 zeroB
/-- slices.Grow of the nil row. -/
theorem grow_nil (n : Nat) (hn : n < 8796093022208) (w : World) :
    Calls Try.prog 40 #[.slice none 0 0, .int .i64 n] w fun e w' => ∃ v, e = .returned v ∧ Kd.R Kd.string 9 w' w.heap.size (fun _ => True) v [] ∧ Below w.heap.size w w' := by
  have h2 : wrap64 ((0 : Int) - 0) = 0 := by unfold wrap64; omega
  by_cases h0 : n = 0
  · subst h0
    go_enter Try.func40, Try.ntmps40
    go_wp2
    go_ret
    exact ⟨_, rfl, Kd.R_nil _ _ _ _ _, Below.refl _ _⟩
  · obtain ⟨i0, hi, hzz⟩ := Option.map_eq_some_iff.1 info9
    simp only [Prod.mk.injEq] at hzz
    obtain ⟨hz0, hz1, hz2⟩ := hzz
    have h4 : (n : Int) > 0 := by omega
    have h1 : ¬ ((n : Int) < 0) := by omega
    have h3 : wrap64 ((n : Int) - 0) = (n : Int) := by unfold wrap64; omega
    have hrz : ∀ ty, (Builtin.append_ #[22, 3] ty #[.slice none 0 0, .int .i64 n]).run Try.prog w =
        .ok (.slice (some ⟨w.heap.size, 0, none⟩) n (grownCap w n 0 9)) (w.drew.alloc (.cells (([] : List Value).toArray ++ Builtin.zeroCells (Value.string ⟨#[]⟩).cells n ++ Builtin.zeroCells (Value.string ⟨#[]⟩).cells (grownCap w n 0 9 - n)) 9)) := fun ty => by
      have h := Lib.run_append_grow_zeros w 22 3 ty 9 i0 (.string ⟨#[]⟩) .i64 .i64 Try.underlying22 Try.underlying3 hi hz0 none 0 0 [] (run_firstCells_none w.drew i0.size 0 0 0) n (by omega) (by omega) (by omega) (by omega) (by rw [hz2]; omega)
        (by rw [hz2]; exact growslice_fits (by omega) (by omega))
      simpa using h
    have hGn : n ≤ grownCap w n 0 9 := grownCap_ge w _ _ _
    have hGm := grownCap_le_maxLen w n 0 9 (by unfold maxLen; omega)
    obtain ⟨G, hG⟩ : ∃ G, G = grownCap w n 0 9 := ⟨_, rfl⟩
    rw [← hG] at hrz hGn hGm
    have hG63 : G ≤ 9223372036854775807 := by unfold maxLen at hGm; omega
    clear hG hi hz0 hz1 hz2
    have HM := Aside0.mk hGm
    clear hGm
    go_enter Try.func40, Try.ntmps40
    go_wp2_with (at_builtin; refine Lib.wpList_append_run _ rfl _ _ _ _ rfl _ _ rfl rfl _ _ (hrz _) ?_)
    go_ret
    refine ⟨_, rfl, Kd.R_of_own (h1 := fun _ => rfl) ?_ (fun _ _ => trivial), below_alloc (below_drew1 (Below.refl _ _)) _⟩
    refine ⟨rfl, .inr ⟨w.heap.size, G, _, rfl, Nat.le_refl _, heap_alloc_new w.drew _, Nat.zero_le _, HM.out, ?_, by simp [encs]⟩⟩
    simp [Builtin.zeroCells, Value.cells]
    omega
/-- slices.Concat of two rows. -/
theorem concat_two (A B : Option Addr) (ca cb : Nat) (xs ys : List ByteArray) (g : Nat) (w : World) (h0 : w.cell? ⟨g, 0, none⟩ = some (.slice A xs.length ca)) (h1 : w.cell? ⟨g, 1, none⟩ = some (.slice B ys.length cb))
    (hA : Kd.C Kd.string w A xs.length xs) (hB : Kd.C Kd.string w B ys.length ys) (hl : xs.length + ys.length < 8796093022208) :
    Calls Try.prog 27 #[.slice (some ⟨g, 0, none⟩) 2 2] w fun e w' => ∃ v, e = .returned v ∧ Kd.R Kd.string 9 w' w.heap.size (fun _ => True) v (xs ++ ys) ∧ Below w.heap.size w w' := by
  have HA := Aside0.mk hA
  have HB_ := Aside0.mk hB
  have HL := Aside0.mk hl
  have H0 := Aside0.mk h0
  have H1 := Aside0.mk h1
  clear hA hB h0 h1
  have hx : xs.length ≤ 8796093022208 := by omega
  have hy : ys.length ≤ 8796093022208 := by omega
  have HG := Aside0.mk (grow_nil (xs.length + ys.length) HL.out)
  clear hl
  go_enter Try.func27, Try.ntmps27
  go_wp2
  go_loopg [3, 11] 2 (fun gq v3 v11 w' => w = w' ∧ ((v11 = .int .i64 0 ∧ v3 = .int .i64 0 ∧ gq = 2) ∨ (v11 = .int .i64 1 ∧ v3 = .int .i64 xs.length ∧ gq = 1) ∨ (v11 = .int .i64 2 ∧ v3 = .int .i64 (xs.length + ys.length) ∧ gq = 0)))
  case atStart => exact ⟨rfl, .inl ⟨rfl, rfl, rfl⟩⟩
  case round =>
    obtain ⟨rfl, ⟨rfl, rfl, hg⟩ | ⟨rfl, rfl, hg⟩ | ⟨rfl, rfl, hg⟩⟩ := hrel
    · have c0 := H0.out
      go_wp2
      go_roundg 1
      case measure => omega
      case rel => exact ⟨rfl, .inr (.inl ⟨rfl, by first | rfl | simp, rfl⟩)⟩
    · have c1 := H1.out
      go_wp2
      go_roundg 0
      case measure => omega
      case rel => exact ⟨rfl, .inr (.inr ⟨rfl, by first | rfl | simp, rfl⟩)⟩
    · clear hg
      have hcast : ((xs.length : Int) + (ys.length : Int)) = ((xs.length + ys.length : Nat) : Int) := by omega
      rw [hcast]
      clear hcast
      go_wp2_with ((with_reducible refine gate_callee (f := 40) rfl ?_); refine goesL_ (some 24) rfl rfl Try.func40 (by kernel_rfl) rfl #[.slice none 0 0, .int .i64 ((xs.length + ys.length : Nat) : Int)] rfl (by (try simp only [List.map_toArray, List.map_cons, List.map_nil]); first | done | rfl) ?_; (with_reducible refine (HG.out _).mono ?_); rintro e w2 ⟨v6, rfl, ho, hb⟩; refine ⟨_, rfl, ?_⟩; have HO := Aside0.mk ho; have HB := Aside0.mk hb; clear ho hb)
      go_loopg [6, 27] 2 (fun gq v6 v27 w' => ∃ zs : List ByteArray, Aside0 (Kd.R Kd.string 9 w' w.heap.size (fun _ => True) v6 zs) ∧ Aside0 (Below w.heap.size w w') ∧ ((v27 = .int .i64 0 ∧ Aside0 (zs = []) ∧ gq = 2) ∨ (v27 = .int .i64 1 ∧ Aside0 (zs = xs) ∧ gq = 1) ∨ (v27 = .int .i64 2 ∧ Aside0 (zs = xs ++ ys) ∧ gq = 0)))
      case atStart => exact ⟨[], HO, HB, .inl ⟨rfl, ⟨rfl⟩, rfl⟩⟩
      case round =>
        clear HO HB
        obtain ⟨zs, HO, HB, ⟨rfl, hz, hg⟩ | ⟨rfl, hz, hg⟩ | ⟨rfl, hz, hg⟩⟩ := hrel
        · have c0 : wr.cell? ⟨g, 0, none⟩ = some (.slice A xs.length ca) := pw_cell_below HB.out H0.out
          rename_i v6
          go_wp2_with ((with_reducible refine gate_builtin (b := .append) (xs := #[.tmp 31, .tmp 32]) rfl ?_); at_builtin; refine Kd.R_append_rows Kd.string (w0 := w) w.heap.size rfl (.tmp 31) (.tmp 32) 22 9 (.string ⟨#[]⟩) 16 rfl Try.underlying22 info9 rfl (by decide) (by omega) _ zs xs _ _ _ (fun _ => True) (fun _ => False) rfl rfl ?aO ?aR (fun _ _ h => h) (fun _ h => h.elim) ?aF ?aB ?aS ?aL ?_; (case aR => exact (Kd.C_below HA.out HB.out)); (case aB => exact HB.out); (case aF => exact (fun _ _ => trivial)); (case aO => exact HO.out); (case aS => exact below_size HB.out); (case aL => have := HL.out; rw [hz.out]; simp; omega); intro v7 w7 ho hb hg hat; have HO7 := Aside0.mk ho; have HB7 := Aside0.mk hb; clear ho hb hg hat)
          go_roundg 1
          case measure => omega
          case rel => exact ⟨_, HO7, HB7, .inr (.inl ⟨rfl, ⟨by rw [hz.out, List.nil_append]⟩, rfl⟩)⟩
        · have c1 : wr.cell? ⟨g, 1, none⟩ = some (.slice B ys.length cb) := pw_cell_below HB.out H1.out
          go_wp2_with ((with_reducible refine gate_builtin (b := .append) (xs := #[.tmp 31, .tmp 32]) rfl ?_); at_builtin; refine Kd.R_append_rows Kd.string (w0 := w) w.heap.size rfl (.tmp 31) (.tmp 32) 22 9 (.string ⟨#[]⟩) 16 rfl Try.underlying22 info9 rfl (by decide) (by omega) _ zs ys _ _ _ (fun _ => True) (fun _ => False) rfl rfl ?aO ?aR (fun _ _ h => h) (fun _ h => h.elim) ?aF ?aB ?aS ?aL ?_; (case aR => exact (Kd.C_below HB_.out HB.out)); (case aB => exact HB.out); (case aF => exact (fun _ _ => trivial)); (case aO => exact HO.out); (case aS => exact below_size HB.out); (case aL => have := HL.out; rw [hz.out]; omega); intro v7 w7 ho hb hg hat; have HO7 := Aside0.mk ho; have HB7 := Aside0.mk hb; clear ho hb hg hat)
          go_roundg 0
          case measure => omega
          case rel => exact ⟨_, HO7, HB7, .inr (.inr ⟨rfl, ⟨by rw [hz.out]⟩, rfl⟩)⟩
        · go_wp2
          go_ret
          have hz_ := hz.out
          subst hz_
          exact ⟨_, rfl, HO.out, HB.out⟩
def hasB (l : List ByteArray) (s : ByteArray) : Bool := l.any (fun x => decide (x = s))
def uni (out : List ByteArray) : List ByteArray → List ByteArray
  | [] => out
  | s :: r => if hasB out s = true then uni out r else uni (out ++ [s]) r
def impl_UniteNames.f (_k : Nat) (l0 : List ByteArray) (l1 : List ByteArray) : Option (List ByteArray) := if l0.length + l1.length < 8796093022208 ∧ ∀ s ∈ l0 ++ l1, s.size ≤ maxLen then some (uni [] (l0 ++ l1)) else none
theorem uni_step (zs acc : List ByteArray) (i : Nat) (h : i < zs.length) : uni acc (zs.drop i) = if hasB acc (rdOf ByteArray.empty zs (i : Int)) = true then uni acc (zs.drop (i + 1)) else uni (acc ++ [rdOf ByteArray.empty zs (i : Int)]) (zs.drop (i + 1)) := by
  rw [List.drop_eq_getElem_cons h, rdOf_str, List.getD_eq_getElem?_getD, List.getElem?_eq_getElem h]
  rfl
theorem rdOf_mem (zs : List ByteArray) (i : Nat) (h : i < zs.length) : rdOf ByteArray.empty zs (i : Int) ∈ zs := by rw [rdOf_str]; exact mem_getD zs ByteArray.empty i h
set_option maxHeartbeats 4000000 in
set_option maxRecDepth 100000 in
theorem impl_UniteNames.calls (k : Nat) (A0 : Option Addr) (c0 : Nat) (l0 : List ByteArray) (A1 : Option Addr) (c1 : Nat) (l1 : List ByteArray) (r : List ByteArray) (w : World) (hr0 : Kd.C Kd.string w A0 l0.length l0) (hc0 : l0.length ≤ c0) (hr1 : Kd.C Kd.string w A1 l1.length l1) (hc1 : l1.length ≤ c1) (h : impl_UniteNames.f k l0 l1 = some r) :
    Calls Try.prog 9 #[.slice A0 l0.length c0, .slice A1 l1.length c1] w fun e w' => ∃ v0_ : Value, e = .returned (v0_) ∧ Kd.R Kd.string 9 w' w.heap.size (fun _ => True) v0_ r ∧ Below w.heap.size w w' := by
  unfold impl_UniteNames.f at h
  by_cases hl : l0.length + l1.length < 8796093022208 ∧ ∀ s ∈ l0 ++ l1, s.size ≤ maxLen
  · rw [if_pos hl] at h
    obtain rfl := Option.some.inj h
    clear h
    have HR0 := Aside0.mk hr0
    have HR1 := Aside0.mk hr1
    have HL := Aside0.mk hl
    have HCC := Aside0.mk (concat_two A0 A1 c0 c1 l0 l1)
    obtain ⟨zs, hzs⟩ : ∃ zs, zs = l0 ++ l1 := ⟨_, rfl⟩
    have HZS := Aside0.mk hzs
    have HLZ : Aside0 (zs.length < 8796093022208 ∧ ∀ s ∈ zs, s.size ≤ maxLen) := ⟨by rw [hzs]; exact ⟨by simpa using hl.1, hl.2⟩⟩
    rw [← hzs]
    clear hr0 hc0 hr1 hc1 hl hzs
    have HB := Aside0.mk (Below.refl w.heap.size w)
    go_enter Try.func9, Try.ntmps9
    go_wp2_with (first
      | ((with_reducible refine gate_dst (N := 9) rfl ?_); refine Kd.R_lit Kd.string _ 9 ?hg (N := 9) ?hd (xs := ([] : List ByteArray)) (inner := []) (ok := fun _ => True) (okp := fun _ => True) ?hr ?hp (fun _ hk => hk) trivial (Below.refl _ _) (Nat.le_refl _) (by simp) ?_; (case hd => rfl); (case hg => rfl); (case hr => first | (go_simp; done) | (go_simp; rfl)); (case hp => exact (Reps.none _ _)); intro v5 w2 ho hb hg_ hnew_; clear hg_ hnew_; replace HB := Aside0.mk (below_step HB.out hb); have HO5 := Aside0.mk ho; clear hb ho)
      | ((with_reducible refine gate_makeMap (t := 36) rfl ?_); refine Sm.smake_event rfl rfl eB 9 ?_; intro bm w3 hg him hb; have HM := Aside0.mk him; have HGB := Aside0.mk (show w.heap.size ≤ bm by rw [hg]; exact below_size HB.out); replace HO5 := Aside0.mk (Kd.R_below (Kd.R_mono (ok' := fun k => k ≠ bm) (Kd.R_bound HO5.out) (fun k hk => by have := hk.2.2.1; omega)) hb); replace HB := Aside0.mk (below_step HB.out hb); clear hg him hb))
    refine (HCC.out w3.heap.size _ ?h0 ?h1 ?hA ?hB HL.out.1).mono ?_
    case h0 => exact (blk_cell (heap_alloc_new w3 _) 0).trans rfl
    case h1 => exact (blk_cell (heap_alloc_new w3 _) 1).trans rfl
    case hA => exact Kd.C_alloc (Kd.C_below HR0.out HB.out) _
    case hB => exact Kd.C_alloc (Kd.C_below HR1.out HB.out) _
    rintro e w5 ⟨vz, rfl, ho, hb⟩
    rw [← HZS.out] at ho
    have hs := below_size (below_alloc (Below.refl w3.heap.size w3) (.cells #[.slice A0 l0.length c0, .slice A1 l1.length c1] 22 (0, 0)))
    have hb2 : Below w3.heap.size w3 w5 := below_step (below_alloc (Below.refl _ _) _) hb
    have hv5 : ∀ k, v5.ownBlock = some k → k < w3.heap.size := fun k hk => (Kd.R_bound HO5.out).1 k hk |>.2.2.1
    have hbm := HM.out.lt
    have HZ := Aside0.mk (Kd.R_lower (Kd.R_mono (ok' := fun k => k ≠ bm ∧ some k ≠ v5.ownBlock) (Kd.R_bound ho) (fun k hk => ⟨by have := hk.2.1; omega, fun e_ => by have := hv5 k e_.symm; have := hk.2.1; omega⟩)) (Nat.le_trans (below_size HB.out) hs))
    replace HO5 := Aside0.mk (Kd.R_below HO5.out hb2)
    replace HM := Aside0.mk (HM.out.below hb2)
    replace HB := Aside0.mk (below_step HB.out hb2)
    clear ho hs hb2 hv5 hbm hb
    obtain ⟨Az, cz, ez⟩ := Kd.R_slice HZ.out
    subst ez
    go_wp2
    go_loopg [5, 16] zs.length (fun gq v5 v16 w' => ∃ (i : Nat) (acc : List ByteArray), v16 = .int .i64 (i : Int) ∧ Aside0 (i + gq = zs.length ∧ acc.length ≤ i ∧ uni acc (zs.drop i) = uni [] zs) ∧ Aside0 (Kd.R Kd.string 9 w' w.heap.size (fun k => k ≠ bm) v5 acc) ∧ Aside0 (Kd.R Kd.string 9 w' w.heap.size (fun k => k ≠ bm ∧ some k ≠ v5.ownBlock) (.slice Az zs.length cz) zs) ∧ Aside0 (Sm.SMap eB 9 w' bm i (fun s => hasB acc s)) ∧ Aside0 (Below w.heap.size w w'))
    case atStart => exact ⟨0, [], by first | rfl | simp, ⟨by omega, Nat.le_refl _, rfl⟩, HO5, HZ, ⟨HM.out.congr (fun s => rfl)⟩, HB⟩
    case round =>
      clear HO5 HZ HM HB
      obtain ⟨i, acc, rfl, HI, HO5, HZ, HM, HB⟩ := hrel
      by_cases c1 : i < zs.length
      · have c2 : (i : Int) < (zs.length : Int) := by omega
        have c3 := eq_true c2
        have c4 : decide ((i : Int) < (zs.length : Int)) = true := decide_eq_true c2
        have c5 : (0 ≤ (i : Int)) = True := eq_true (by omega)
        obtain ⟨ad, e0, hx⟩ := Kd.at_string (Kd.R_reads' HZ.out).2.2 (i : Int) (by omega) c2
        cases e0
        rw [Int.toNat_natCast] at hx
        have hks : Aside0 ((rdOf ByteArray.empty zs (i : Int)).size ≤ maxLen) := ⟨HLZ.out.2 _ (rdOf_mem zs i c1)⟩
        have hst := Aside0.mk (uni_step zs acc i c1)
        have hnm : Aside0 (i < maxLen) := ⟨by have := HLZ.out.1; unfold maxLen; omega⟩
        have hw1 : Aside0 (wrap64 ((i : Int) + 1) = ((i + 1 : Nat) : Int)) := ⟨w1 c1 (by have := HLZ.out.1; unfold maxLen; omega)⟩
        have hbmw := Aside0.mk HM.out.lt
        clear c2
        have C1 := Aside0.mk c1
        clear c1
        by_cases m1 : hasB acc (rdOf ByteArray.empty zs (i : Int)) = true
        · go_wp2_with ((with_reducible refine gate_lookup (t := 36) rfl ?_); refine Sm.sget_event (E := eB) rfl rfl Try.underlying36 Try.underlying9 rfl HM.out (rdOf ByteArray.empty zs (i : Int)) rfl hks.out (?_ : wpList _ _ _ _ (Act.put _ _ (.bool (hasB acc (rdOf ByteArray.empty zs (i : Int))))) _))
          go_roundg (gk - 1)
          case measure => have := HI.out; have := C1.out; omega
          case rel => exact ⟨i + 1, acc, (by rw [← hw1.out]), ⟨by have := HI.out; have := C1.out; omega, by have := HI.out; omega, by have := HI.out.2.2; rw [hst.out, if_pos m1] at this; exact this⟩, HO5, HZ, ⟨HM.out.mono (Nat.le_succ _)⟩, HB⟩
        · replace m1 : hasB acc (rdOf ByteArray.empty zs (i : Int)) = false := by simpa using m1
          go_wp2_with (first
            | ((with_reducible refine gate_lookup (t := 36) rfl ?_); refine Sm.sget_event (E := eB) rfl rfl Try.underlying36 Try.underlying9 rfl HM.out (rdOf ByteArray.empty zs (i : Int)) rfl hks.out (?_ : wpList _ _ _ _ (Act.put _ _ (.bool (hasB acc (rdOf ByteArray.empty zs (i : Int))))) _))
            | ((with_reducible refine gate_mapUpdate (t := 36) rfl ?_)
               refine Sm.sput_event (E := eB) rfl rfl Try.underlying36 Try.underlying9 rfl HM.out hnm.out (rdOf ByteArray.empty zs (i : Int)) true rfl rfl hks.out trivial ?_
               intro w2 him hg
               have HM2 := Aside0.mk him
               have HO2 := Aside0.mk (Kd.R_grown HO5.out hg (fun k hk e_ => hk (by injection e_)))
               have HZ2 := Aside0.mk (Kd.R_grown HZ.out hg (fun k hk e_ => hk.1 (by injection e_)))
               have HB2 := Aside0.mk (pw_below_grown HB.out _ (below_size HB.out) hg (fun k_ e_ => by injection e_ with e_; rw [← e_]; exact HGB.out))
               have hx2 : w2.cell? (ad.add i) = some (.string (rdOf ByteArray.empty zs (i : Int))) := by
                 obtain ⟨ad2, e2, h2⟩ := Kd.at_string (Kd.R_reads' HZ2.out).2.2 (i : Int) (by omega) (by have := C1.out; omega)
                 cases e2
                 rw [Int.toNat_natCast] at h2
                 exact h2
               clear him hg hx)
            | ((with_reducible refine gate_builtin (b := .append) (xs := #[.tmp 26, .tmp 28]) rfl ?_); at_builtin
               refine Kd.R_append Kd.string (w0 := w) w.heap.size rfl (.tmp 26) (.tmp 28) 22 9 (.string ⟨#[]⟩) 16 rfl Try.underlying22 info9 rfl (by decide) (by omega) _ acc (rdOf ByteArray.empty zs (i : Int)) [.string (rdOf ByteArray.empty zs (i : Int))] (fun k => k ≠ bm) (fun _ => False) rfl rfl ?aP (fun _ hk => hk.elim) ?aF ?aO ?aB ?aS ?aL ?_
               (case aP => exact rfl)
               (case aB => exact HB2.out)
               (case aF => exact (fun k hk e_ => by have := HM2.out.lt; omega))
               (case aO => exact HO2.out)
               (case aS => exact below_size HB2.out)
               (case aL => have := HI.out.2.1; have := C1.out; have := HLZ.out.1; omega)
               intro v7 w7 ho hb hg hat
               have HO7 := Aside0.mk ho
               have HZ7 := Aside0.mk (Kd.R_after HZ2.out hg hat)
               have HM7 := Aside0.mk (HM2.out.kept hg (fun e_ => HO2.out.1 bm e_.symm rfl))
               have HB7 := Aside0.mk hb
               clear ho hb hg hat))
          go_roundg (gk - 1)
          case measure => have := HI.out; have := C1.out; omega
          case rel => exact ⟨i + 1, acc ++ [rdOf ByteArray.empty zs (i : Int)], (by rw [← hw1.out]), ⟨by have := HI.out; have := C1.out; omega, by have := HI.out; simp; omega, by have := HI.out.2.2; rw [hst.out, if_neg (by rw [m1]; decide)] at this; exact this⟩, HO7, HZ7, ⟨HM7.out.congr (fun s => by unfold Sm.put hasB; by_cases hs : s = rdOf ByteArray.empty zs (i : Int) <;> simp [hs, eq_comm])⟩, HB7⟩
      · have c4 : decide ((i : Int) < (zs.length : Int)) = false := decide_eq_false (by omega)
        have c5 : ¬ ((i : Int) < (zs.length : Int)) := by omega
        have hz : Aside0 (acc = uni [] zs) := ⟨by have := HI.out; rw [List.drop_of_length_le (by omega)] at this; exact this.2.2⟩
        clear c1
        go_wp2
        go_ret
        exact ⟨_, rfl, by rw [← hz.out]; exact Kd.R_mono HO5.out (fun _ _ => trivial), HB.out⟩
  · rw [if_neg hl] at h
    cases h

end Go.Proofs.Ytochgledinnlhaa.Pu
end
section
namespace Go.Proofs.Ytochgledinnlhaa.Pu
open Go.RowKit Go.Proofs.Ytochgledinnlhaa.Ext Go.Proofs.YtochgledinnlhaaW.PrintWords Go.Proofs.YtochgledinnlhaaW.PrintLast Go.Proofs.YtochgledinnlhaaW.PrintMore
attribute [local go_sem] max2_int min2_int max_two min_two max_three min_three max_four min_four   -- for this text's walks alone
set_option linter.unusedVariables false
set_option linter.unusedSimpArgs false

end Go.Proofs.Ytochgledinnlhaa.Pu
end
section
namespace Go.Proofs.Ytochgledinnlhaa.Pu
open Go.RowKit Go.Proofs.Ytochgledinnlhaa.Ext Go.Proofs.YtochgledinnlhaaW.PrintWords Go.Proofs.YtochgledinnlhaaW.PrintLast Go.Proofs.YtochgledinnlhaaW.PrintMore
attribute [local go_sem] max2_int min2_int max_two min_two max_three min_three max_four min_four   -- for this text's walks alone
set_option linter.unusedVariables false
set_option linter.unusedSimpArgs false

/-! ### slices_Clone_string_string: function 29 -/
/-- slices.Clone at texts: the same texts, in a row of their own. -/
def slices_Clone_string_string.f (l0 : List ByteArray) : Option (List ByteArray) := if l0.length < 8796093022208 then some l0 else none
set_option maxHeartbeats 1000000 in
set_option maxRecDepth 100000 in
theorem slices_Clone_string_string.calls (A0 : Option Addr) (c0 : Nat) (l0 : List ByteArray) (r : List ByteArray) (w : World) (hr0 : Kd.C Kd.string w A0 l0.length l0) (hc0 : l0.length ≤ c0) (h : slices_Clone_string_string.f l0 = some r) :
    Calls Try.prog 29 #[.slice A0 l0.length c0] w fun e w' => ∃ v0_ : Value, e = .returned (v0_) ∧ Kd.R Kd.string 9 w' w.heap.size (fun _ => True) v0_ r ∧ Below w.heap.size w w' := by
  unfold slices_Clone_string_string.f at h
  by_cases hl : l0.length < 8796093022208
  · rw [if_pos hl] at h
    obtain rfl := Option.some.inj h
    have HL := Aside0.mk hl
    have HR0 := Aside0.mk hr0
    have HC0 := Aside0.mk hc0
    clear h hl hr0 hc0
    cases A0 with
    | none =>
      have hz : l0 = [] := by
        rcases Nat.eq_zero_or_pos l0.length with h0 | h0
        · exact List.eq_nil_of_length_eq_zero h0
        · obtain ⟨ad, h, _⟩ := HR0.out.2.2 h0
          cases h
      subst hz
      have he : ∀ n c w', (binOp .eql 22 (.slice none n c) (.slice none 0 0)).run Try.prog w' = .ok (.bool true) w' := fun n c w' => Go.Proofs.Ytochgledinnlhaa.Ext.eql_slice_nil Try.underlying22 none n c w'
      go_enter Try.func29, Try.ntmps29
      go_wp2
      go_ret
      exact ⟨_, rfl, Kd.R_nil _ _ _ _ _, Below.refl _ _⟩
    | some ad =>
      have he : ∀ n c w', (binOp .eql 22 (.slice (some ad) n c) (.slice none 0 0)).run Try.prog w' = .ok (.bool false) w' := fun n c w' => Go.Proofs.Ytochgledinnlhaa.Ext.eql_slice_nil Try.underlying22 (some ad) n c w'
      go_enter Try.func29, Try.ntmps29
      go_wp2_with (first
        | ((with_reducible refine gate_dst (N := 5) rfl ?_); refine Kd.R_lit Kd.string _ 9 ?hg (N := 5) ?hd (xs := ([] : List ByteArray)) (inner := []) (ok := fun _ => True) (okp := fun _ => True) ?hr ?hp (fun _ hk => hk) trivial (Below.refl _ _) (Nat.le_refl _) (by simp) ?_; (case hd => rfl); (case hg => rfl); (case hr => first | (go_simp; done) | (go_simp; rfl)); (case hp => exact (Reps.none _ _)); intro v5 w5 ho5 hb5 hg_ hnew_; clear hg_ hnew_; have HO5 := Aside0.mk ho5; have HB5 := Aside0.mk hb5; clear ho5 hb5)
        | ((with_reducible refine gate_builtin (b := .append) (xs := #[.tmp 5, .tmp 6]) rfl ?_); at_builtin; refine Kd.R_append_rows Kd.string (w0 := w) w.heap.size rfl (.tmp 5) (.tmp 6) 22 9 (.string ⟨#[]⟩) 16 rfl Try.underlying22 info9 rfl (by decide) (by omega) v5 ([] : List ByteArray) l0 _ _ _ (fun _ => True) (fun _ => False) rfl rfl ?aO ?aR (fun _ _ h => h) (fun _ h => h.elim) ?aF ?aB ?aS ?aL ?_; (case aR => exact (Kd.C_below HR0.out HB5.out)); (case aB => exact HB5.out); (case aF => exact (fun _ _ => trivial)); (case aO => exact HO5.out); (case aS => exact below_size HB5.out); (case aL => have := HL.out; simp; omega); intro v7 w7 ho hb hg hat; have HO7 := Aside0.mk ho; have HB7 := Aside0.mk hb; clear ho hb hg hat; obtain ⟨A7, c7, e7⟩ := Kd.R_slice HO7.out; subst e7))
      go_ret
      exact ⟨_, by first | rfl | (simp [errW_none, errW_some] <;> rfl) | (simp [*, errW_none, errW_some] <;> rfl), HO7.out, HB7.out⟩
  · rw [if_neg hl] at h
    cases h

end Go.Proofs.Ytochgledinnlhaa.Pu
end
section
namespace Go.Proofs.Ytochgledinnlhaa.Pu
open Go.RowKit Go.Proofs.YtochgledinnlhaaW.PrintWords Go.Proofs.YtochgledinnlhaaW.PrintLast Go.Proofs.Ytochgledinnlhaa.Pl Go.Proofs.Ytochgledinnlhaa.Ext
set_option linter.unusedVariables false
set_option linter.unusedSimpArgs false
open Go.Sort Go.Lib Go.Proofs
theorem heap_map (w : World) (g : Nat) (f : Array Value → Array Value) {c : Array Value} {e : TypeId} {fr : Nat × Nat} (h : w.heap[g]? = some (.cells c e fr)) : (mapBlock w g f).heap[g]? = some (.cells (f c) e fr) := by simp [mapBlock, Array.getElem?_modify, h, onCells]
theorem heap_map_other (w : World) (g k : Nat) (f : Array Value → Array Value) (h : g ≠ k) : (mapBlock w g f).heap[k]? = w.heap[k]? := by simp [mapBlock, Array.getElem?_modify, h]
def bs (l : List UInt8) : ByteArray := ⟨l.toArray⟩
def sorted (l0 : List ByteArray) : List (List UInt8) := (l0.map (·.data.toList)).mergeSort fun x y => decide (x ≤ y)
def impl_SortNames.f (_k : Nat) (l0 : List ByteArray) : Option (List ByteArray) := if l0.length < 8796093022208 then some ((Lib.compact (sorted l0)).map bs) else none
theorem sorted_length (l0 : List ByteArray) : (sorted l0).length = l0.length := by simp [sorted]
theorem compact_le {α : Type} [Inhabited α] [DecidableEq α] (zs : List α) : (Lib.compact zs).length ≤ zs.length := by
  unfold Lib.compact Lib.compactUpTo
  rw [List.length_map]
  exact Nat.le_trans (List.length_filter_le _ _) (by simp)
theorem cells_put (d : List (List UInt8)) (c : Array Value) (j : Nat) (h : j < d.length) (hc : j < c.size) : (putCells encStr 0 d.toArray c)[j]? = some (encStr d[j]) := by
  simp only [putCells, Array.getElem?_mapIdx, Array.getElem?_eq_getElem hc, Option.map_some]
  rw [if_pos ⟨Nat.zero_le _, by simpa using h⟩]
  simp [getElem!_pos, h]
set_option maxHeartbeats 4000000 in
set_option maxRecDepth 100000 in
theorem impl_SortNames.calls (k : Nat) (A0 : Option Addr) (c0 : Nat) (l0 : List ByteArray) (r : List ByteArray) (w : World) (hr0 : Kd.C Kd.string w A0 l0.length l0) (hc0 : l0.length ≤ c0) (h : impl_SortNames.f k l0 = some r) :
    Calls Try.prog 14 #[.slice A0 l0.length c0] w fun e w' => ∃ v0_ : Value, e = .returned (v0_) ∧ Kd.R Kd.string 9 w' w.heap.size (fun _ => True) v0_ r ∧ Below w.heap.size w w' := by
  unfold impl_SortNames.f at h
  by_cases hl : l0.length < 8796093022208
  · rw [if_pos hl] at h
    obtain rfl := Option.some.inj h
    have HCl := Aside0.mk (slices_Clone_string_string.calls A0 c0 l0 l0 w hr0 hc0 (by unfold slices_Clone_string_string.f; rw [if_pos hl]))
    have HL := Aside0.mk hl
    clear h hr0 hc0 hl
    go_enter Try.func14, Try.ntmps14
    go_upto_region 2 with (go_at_call 29; refine HCl.out.mono ?_; rintro e w1 ⟨v3, rfl, ho, hb⟩; have HO := Aside0.mk ho; have HB := Aside0.mk hb; obtain ⟨A3, c3, e3⟩ := Kd.R_slice ho; subst e3; clear ho hb)
    by_cases h0 : l0.length = 0
    · obtain rfl := List.length_eq_zero_iff.1 h0
      clear h0
      go_upto_region 3 with (go_at_call 30; refine (Try.slices_Sort_string_none A3 c3 w1).mono ?_; rintro e w2 ⟨rfl, rfl⟩)
      go_wp2_with (go_at_call 31; refine (Try.slices_Compact_string_empty A3 c3 _).mono ?_; rintro e w3 ⟨rfl, rfl⟩)
      go_ret
      exact ⟨_, rfl, by have h2 := compact_le (sorted []); rw [sorted_length] at h2; have h3 : Lib.compact (sorted []) = [] := List.eq_nil_of_length_eq_zero (Nat.le_zero.1 h2); rw [h3]; exact HO.out, HB.out⟩
    · obtain ⟨hlen, hor⟩ := Kd.own_of_R HO.out
      rcases hor with ⟨hn, _⟩ | ⟨g, cap, cur, hv, hg, hh, hc1, hc2, hcs, htk⟩
      · injection hn with _ h2 _
        exact absurd h2 h0
      · injection hv with hA _ hcap
        subst hA hcap
        have hsl : (l0.map (·.data.toList)).length = l0.length := by simp
        have hH : Holds encStr w1 g 0 (l0.map (·.data.toList)).toArray := by
          intro j hj
          have hj' : j < l0.length := by simpa using hj
          have hjc : j < cur.size := by omega
          refine ⟨?_, by simp [World.frozen?, hh]⟩
          rw [Nat.zero_add, blk_cell hh j, Array.getElem?_eq_getElem hjc]
          have h2 : cur.toList[j]? = (encs Value.string l0)[j]? := by
            rw [← htk, List.getElem?_take_of_lt (by omega)]
          simp only [encs, List.getElem?_map, List.getElem?_eq_getElem hj', Option.map_some] at h2
          rw [Array.getElem?_toList, Array.getElem?_eq_getElem hjc] at h2
          rw [h2]
          simp [getElem!_pos, hj', encStr]
        have hgs : g < w1.heap.size := blk_lt hh
        have HS := Aside0.mk (Try.slices_Sort_string g 0 c3 (l0.map (·.data.toList)) w1 hH hgs (by rw [hsl]; have := HL.out; omega))
        rw [hsl] at HS
        have HH := Aside0.mk hH
        clear hH hsl
        have HA := Aside0.mk (And.intro hg (And.intro hh (And.intro hc1 (And.intro hc2 (And.intro hcs hgs)))))
        clear hg hh hc1 hc2 hcs htk hgs hlen h0
        go_upto_region 3 with (go_at_call 30; refine HS.out.mono ?_; rintro e w2 ⟨rfl, n, os, hw2_⟩; have HW2 := Aside0.mk hw2_; clear hw2_)
        have hw2 := HW2.out
        have hst : (sorted l0).toArray.size = (l0.map (·.data.toList)).toArray.size := by simp [sorted]
        have hgn : g < (Go.Sort.ahead w1 n).heap.size := HA.out.2.2.2.2.2
        have hH2 : Holds encStr w2 g 0 (sorted l0).toArray := by
          rw [hw2]
          exact holds_grow encStr _ os g 0 _ (by rw [size_putRow]; exact hgn) (holds_putRow encStr _ g 0 _ _ (holds_ahead encStr w1 n g 0 _ HH.out) hst)
        have hh2 : w2.heap[g]? = some (.cells (putCells encStr 0 (sorted l0).toArray cur) 9 (0, 0)) := by
          rw [hw2, heap_grow_old _ os (by rw [size_putRow]; exact hgn)]
          exact heap_map _ g _ HA.out.2.1
        have hb2 : Below w.heap.size w w2 := by
          have HB' := HB.out
          refine ⟨?_, ?_, ?_, ?_, fun k hk => ?_⟩
          · rw [hw2]; exact HB'.os
          · rw [hw2]; exact HB'.tape
          · rw [hw2]; exact HB'.output
          · rw [hw2, size_grow, size_putRow]; have := HB'.size; simp; omega
          · have hk1 : k < w1.heap.size := Nat.lt_of_lt_of_le hk HB'.size
            rw [hw2, heap_grow_old _ os (by rw [size_putRow]; exact hk1)]
            refine (heap_map_other _ g k _ (by have := HA.out.1; omega)).trans (HB'.block k hk)
        have HCo := Aside0.mk (Try.slices_Compact_string g 0 c3 (sorted l0) w2 hH2 (by rw [sorted_length]; have := HL.out; omega) (by rw [sorted_length]; exact HA.out.2.2.1))
        rw [sorted_length] at HCo
        have HD := Aside0.mk (And.intro hh2 hb2)
        clear hH2 hh2 hb2 hw2 hst hgn
        go_wp2_with (go_at_call 31; refine HCo.out.mono ?_; rintro e w3 ⟨rfl, q, hw3⟩; have HW := Aside0.mk hw3; clear hw3)
        go_ret
        obtain ⟨hg, hh, hc1, hc2, hcs, hgs⟩ := HA.out
        obtain ⟨hh2, hb2⟩ := HD.out
        have hcl := compact_le (sorted l0)
        rw [sorted_length] at hcl
        have hh3 : w3.heap[g]? = some (.cells (putCells encStr 0 (Lib.compact (sorted l0) ++ List.replicate (l0.length - (Lib.compact (sorted l0)).length) []).toArray (putCells encStr 0 (sorted l0).toArray cur)) 9 (0, 0)) := by
          rw [HW.out]
          exact heap_map _ g _ hh2
        refine ⟨_, rfl, Kd.R_of_own (h1 := fun _ => rfl) (xs := (Lib.compact (sorted l0)).map bs) ?_ (fun _ _ => trivial), ?_⟩
        · rw [List.length_map]
          refine ⟨by simp [encs], .inr ⟨g, c3, _, rfl, hg, hh3, by omega, hc2, by simp [putCells]; omega, ?_⟩⟩
          apply List.ext_getElem?
          intro j
          rw [Nat.mul_one]
          by_cases hj : j < (Lib.compact (sorted l0)).length
          · rw [List.getElem?_take_of_lt hj, Array.getElem?_toList, cells_put _ _ j (by simp; omega) (by simp [putCells]; omega)]
            simp [encs, bs, encStr, List.getElem?_eq_getElem, hj, List.getElem_append_left]
          · rw [List.getElem?_eq_none (by simp; omega), List.getElem?_eq_none (by simp [encs]; omega)]
        · refine ⟨?_, ?_, ?_, ?_, fun k hk => ?_⟩
          · rw [HW.out]; exact hb2.os
          · rw [HW.out]; exact hb2.tape
          · rw [HW.out]; exact hb2.output
          · rw [HW.out, size_putRow]; exact hb2.size
          · rw [HW.out]
            exact (heap_map_other _ g k _ (by omega)).trans (hb2.block k hk)
  · rw [if_neg hl] at h
    cases h

end Go.Proofs.Ytochgledinnlhaa.Pu
end
section
namespace Go.Proofs.Ytochgledinnlhaa.Pu
open Go.RowKit Go.Proofs.YtochgledinnlhaaW.PrintWords Go.Proofs.YtochgledinnlhaaW.PrintLast Go.Proofs.Ytochgledinnlhaa.Pl Go.Proofs.Ytochgledinnlhaa.Ext
set_option linter.unusedVariables false
set_option linter.unusedSimpArgs false
open Go.Sort Go.Lib Go.Proofs
def lt (a b : ByteArray) : Prop := a.data.toList < b.data.toList
instance : DecidableRel lt := fun a b => inferInstanceAs (Decidable (a.data.toList < b.data.toList))
theorem tl (s : ByteArray) : s.toList = s.data.toList := Lib.toList_data s
theorem drop_at (out : List ByteArray) (j : Nat) (h : j < out.length) : out.drop j = out.getD j ByteArray.empty :: out.drop (j + 1) := by
  rw [List.drop_eq_getElem_cons h, List.getD_eq_getElem?_getD, List.getElem?_eq_getElem h]
  rfl
end Go.Proofs.Ytochgledinnlhaa.Pu
end
section
namespace Go.Proofs.Ytochgledinnlhaa.Pu
open Go.RowKit Go.Proofs.YtochgledinnlhaaW.PrintWords Go.Proofs.YtochgledinnlhaaW.PrintLast Go.Proofs.Ytochgledinnlhaa.Pl Go.Proofs.Ytochgledinnlhaa.Ext
set_option linter.unusedVariables false
set_option linter.unusedSimpArgs false
theorem hasB_iff (l : List ByteArray) (s : ByteArray) : hasB l s = true ↔ s ∈ l := by
  unfold hasB
  rw [List.any_eq_true]
  constructor
  · rintro ⟨x, hx, h⟩
    rw [decide_eq_true_eq] at h
    exact h ▸ hx
  · intro h
    exact ⟨s, h, decide_eq_true rfl⟩
/-- Is the name found from a place on? -/
theorem idx_ev (xs : List ByteArray) (hx : xs.length ≤ 1048576) (s : ByteArray) : ∃ t : Int, Ev (fun k => spec_IndexOf.f k xs s) t ∧ (t < 0 ↔ hasB xs s = false) := by
  suffices h : ∀ (m i : Nat), i + m = xs.length → ∃ t : Int, Ev (fun k => spec_IndexOf.l0 k xs s (i : Int)) t ∧ (t < 0 ↔ hasB (xs.drop i) s = false) by
    obtain ⟨t, h1, h2⟩ := h xs.length 0 (by omega)
    exact ⟨t, h1, by simpa using h2⟩
  intro m
  induction m with
  | zero =>
    intro i hi
    refine ⟨-1, Ev.up ?_, ?_⟩
    · simp only [spec_IndexOf.l0]; exact Ev.neg (by omega) (Ev.now _)
    · rw [List.drop_of_length_le (by omega)]; simp [hasB]
  | succ m ih =>
    intro i hi
    obtain ⟨t, h1, h2⟩ := ih (i + 1) (by omega)
    rw [drop_at xs i (by omega)]
    by_cases hc : (rdOf ByteArray.empty xs (i : Int)).toList = s.toList
    · refine ⟨(i : Int), Ev.up ?_, ?_⟩
      · simp only [spec_IndexOf.l0]; exact Ev.pos (by omega) (Ev.pos (by omega) (Ev.pos hc (Ev.now _)))
      · rw [rdOf_str, tl, tl] at hc
        have := Sm.toList_inj hc
        constructor
        · intro h; omega
        · intro h
          have h' : hasB (xs.getD i ByteArray.empty :: xs.drop (i + 1)) s = true := (hasB_iff _ _).2 (by rw [this]; exact List.mem_cons_self ..)
          rw [h'] at h
          cases h
    · refine ⟨t, Ev.up ?_, ?_⟩
      · simp only [spec_IndexOf.l0]
        refine Ev.pos (by omega) (Ev.pos (by omega) (Ev.neg hc ?_))
        rw [w1' (n := xs.length) (by omega) hx]; exact h1
      · rw [h2]
        have hne : ¬ xs.getD i ByteArray.empty = s := fun h => hc (by rw [rdOf_str, h])
        have e : hasB (xs.getD i ByteArray.empty :: xs.drop (i + 1)) s = hasB (xs.drop (i + 1)) s := by unfold hasB; rw [List.any_cons, decide_eq_false hne, Bool.false_or]
        rw [e]
theorem uni_len : ∀ (l acc : List ByteArray), (uni acc l).length ≤ acc.length + l.length
  | [], acc => by simp [uni]
  | s :: r, acc => by
    unfold uni
    split
    · have := uni_len r acc; simp; omega
    · have := uni_len r (acc ++ [s]); simp at this ⊢; omega
theorem unite_l1 (b : List ByteArray) (hb : b.length ≤ 1048576) : ∀ (m i : Nat) (acc : List ByteArray), i + m = b.length → acc.length + m ≤ 2097152 → acc.length + m ≤ 1048576 → Ev (fun k => spec_UniteNames.l1 k b acc (i : Int)) (uni acc (b.drop i)) := by
  intro m
  induction m with
  | zero =>
    intro i acc hi _ _
    refine Ev.up ?_
    simp only [spec_UniteNames.l1]
    rw [List.drop_of_length_le (by omega)]
    exact Ev.neg (by omega) (Ev.now _)
  | succ m ih =>
    intro i acc hi hl hl2
    refine Ev.up ?_
    simp only [spec_UniteNames.l1, w1' (show i < b.length by omega) hb, rdOf_str]
    obtain ⟨t, h1, h2⟩ := idx_ev acc (by omega) (b.getD i ByteArray.empty)
    refine Ev.pos (by omega) (Ev.pos (by omega) (Ev.bind h1 ?_))
    rw [drop_at b i (by omega)]
    unfold uni
    by_cases hc : hasB acc (b.getD i ByteArray.empty) = true
    · rw [if_pos hc]
      refine Ev.neg (fun h => by rw [h2.1 h] at hc; cases hc) (ih (i + 1) acc (by omega) (by omega) (by omega))
    · rw [if_neg hc]
      refine Ev.pos (h2.2 (by simpa using hc)) (Ev.pos (by omega) (ih (i + 1) _ (by omega) (by simp; omega) (by simp; omega)))
theorem spec_UniteNames_ev (a b : List ByteArray) (hl : a.length + b.length ≤ 1048576) : Ev (fun k => spec_UniteNames.f k a b) (uni [] (a ++ b)) := by
  suffices h : ∀ (m i : Nat) (acc : List ByteArray), i + m = a.length → acc.length ≤ i → Ev (fun k => spec_UniteNames.l0 k a b acc (i : Int)) (uni acc (a.drop i ++ b)) by
    simp only [spec_UniteNames.f]
    simpa using h a.length 0 [] (by omega) (Nat.le_refl _)
  intro m
  induction m with
  | zero =>
    intro i acc hi ha
    refine Ev.up ?_
    simp only [spec_UniteNames.l0]
    rw [List.drop_of_length_le (by omega), List.nil_append]
    refine Ev.neg (by omega) ?_
    have := unite_l1 b (by omega) b.length 0 acc (by omega) (by omega) (by omega)
    simpa using this
  | succ m ih =>
    intro i acc hi ha
    refine Ev.up ?_
    simp only [spec_UniteNames.l0, w1' (show i < a.length by omega) (show a.length ≤ 1048576 by omega), rdOf_str]
    obtain ⟨t, h1, h2⟩ := idx_ev acc (by omega) (a.getD i ByteArray.empty)
    refine Ev.pos (by omega) (Ev.pos (by omega) (Ev.bind h1 ?_))
    rw [drop_at a i (by omega), List.cons_append]
    unfold uni
    by_cases hc : hasB acc (a.getD i ByteArray.empty) = true
    · rw [if_pos hc]
      refine Ev.neg (fun h => by rw [h2.1 h] at hc; cases hc) (ih (i + 1) acc (by omega) (by omega))
    · rw [if_neg hc]
      refine Ev.pos (h2.2 (by simpa using hc)) (Ev.pos (by omega) (ih (i + 1) _ (by omega) (by simp; omega)))

end Go.Proofs.Ytochgledinnlhaa.Pu
end
