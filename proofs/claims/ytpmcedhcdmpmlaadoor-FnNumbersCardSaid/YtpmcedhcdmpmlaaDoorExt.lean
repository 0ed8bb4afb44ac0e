/- Words beside the print's: cells that lie in a row from an address on. No condition. -/
import Derived.Test.YtpmcedhcdmpmlaaDoorWWords
import Derived.Test.YtpmcedhcdmpmlaaDoorWMore
import Derived.Test.YtpmcedhcdmpmlaaDoorWLast
import Derived.Maps.Own
import Derived.Maps.OwnOps
import Derived.Maps.Views
import Derived.Laws.Cover1
namespace Go.Proofs.YtpmcedhcdmpmlaaDoor.Ext
open Go.RowKit Go.Proofs.YtpmcedhcdmpmlaaDoorW.PrintWords
set_option linter.unusedVariables false
section
variable {P : Program} {ops : Array Oper} {Q : Exit → Act → World → Prop}
theorem bytesLess_swap : ∀ a b : List UInt8, Op.bytesLess b a = !(Op.bytesLess a b || a == b)
  | [], [] => rfl
  | [], _ :: _ => rfl
  | _ :: _, [] => rfl
  | x :: a, y :: b => by
      have ih := bytesLess_swap a b
      simp only [Op.bytesLess]
      rcases Nat.lt_trichotomy x.toNat y.toNat with h | h | h
      · have h1 : x < y := h
        have h2 : ¬ y < x := fun h3 => by have h4 : y.toNat < x.toNat := h3; omega
        have h5 : ¬ y = x := fun h3 => by subst h3; omega
        simp [h1, h2, h5]
      · have h1 : x = y := UInt8.toNat_inj.mp h
        subst h1
        have h2 : ¬ x < x := fun h3 => by have h4 : x.toNat < x.toNat := h3; omega
        simp [h2, ih]
      · have h1 : ¬ x < y := fun h3 => by have h4 : x.toNat < y.toNat := h3; omega
        have h2 : y < x := h
        have h5 : ¬ x = y := fun h3 => by subst h3; omega
        simp [h1, h2, h5]
@[go_sem high] theorem binOp_string_gtr_ (t : TypeId) (a b : ByteArray) : binOp .gtr t (.string a) (.string b) = pure (.bool (Op.bytesLess b.toList a.toList)) := by rw [binOp_string_gtr, bytesLess_swap a.toList b.toList]
@[go_sem high] theorem binOp_string_leq_ (t : TypeId) (a b : ByteArray) : binOp .leq t (.string a) (.string b) = pure (.bool (!(Op.bytesLess b.toList a.toList))) := by rw [binOp_string_leq, bytesLess_swap a.toList b.toList, Bool.not_not]
/-- The operation calls the function value in the slot t. -/
theorem gate_calleev {rest : List Oper} {o : Oper} {a : Act} {W : World} {t : Tmp} {as : Array Operand} {ts : Array TypeId} (_ho : o.op = .call { callee := .value (.tmp t), args := as, argTypes := ts }) (h : wpList P ops Q (o :: rest) a W) : wpList P ops Q (o :: rest) a W := h
/-- A call of a function value that is known, without captured variables. -/
theorem goesV_ {rest : List Oper} {oi : Oper} {a : Act} {w : World} (t : Tmp) (N : Option Tmp) (hd : oi.dst = N) (hg : oi.guard = none) {f : FuncId} (hv : a.eval (.tmp t) = .func (.func f) #[] #[]) {fn : Func} {as : Array Operand} {ts : Array TypeId} (hf : P.funcs[f]? = some fn) (hname : (fn.name == "runtime.NumGoroutine") = false) (hb : fn.body.isSome = true) (args : Array Value)
    (hop : oi.op = .call { callee := .value (.tmp t), args := as, argTypes := ts }) (hargs : as.map a.eval = args)
    (h : Calls P f args w fun e w' => ∃ v, e = .returned v ∧ wpList P ops Q rest (a.put N v) w') : wpList P ops Q (oi :: rest) a w := by
  refine wpList_plain hg fun K hK => ?_
  have he := Go.Proofs.YtpmcedhcdmpmlaaDoorW.PrintLast.enters_ hf hname hb args w
  have hrun : (execOp a.eval oi).run P w = .ok (.enter f args) w := by
    unfold execOp
    simp [hop, resolve, Deferred.ofValue, invoke, hv, hargs, he]
  unfold Oper.wp
  rw [hrun, Oper.upon_enter]
  refine h.mono fun e w'' hh => ?_
  obtain ⟨v, rfl, hk⟩ := hh
  subst hd
  exact hK _ _ hk
/-- A call of a function value that is known, with one captured variable. -/
theorem goesV1_ {rest : List Oper} {oi : Oper} {a : Act} {w : World} (t : Tmp) (N : Option Tmp) (hd : oi.dst = N) (hg : oi.guard = none) {f : FuncId} {C : Value} (hv : a.eval (.tmp t) = .func (.func f) #[] #[C]) {fn : Func} {as : Array Operand} {ts : Array TypeId} (hf : P.funcs[f]? = some fn) (hname : (fn.name == "runtime.NumGoroutine") = false) (hb : fn.body.isSome = true) (args : Array Value)
    (hop : oi.op = .call { callee := .value (.tmp t), args := as, argTypes := ts }) (hargs : (as.map a.eval).push C = args)
    (h : Calls P f args w fun e w' => ∃ v, e = .returned v ∧ wpList P ops Q rest (a.put N v) w') : wpList P ops Q (oi :: rest) a w := by
  refine wpList_plain hg fun K hK => ?_
  have he := Go.Proofs.YtpmcedhcdmpmlaaDoorW.PrintLast.enters_ hf hname hb args w
  have hrun : (execOp a.eval oi).run P w = .ok (.enter f args) w := by
    unfold execOp
    subst hargs
    simp [hop, resolve, Deferred.ofValue, invoke, hv, he]
  unfold Oper.wp
  rw [hrun, Oper.upon_enter]
  refine h.mono fun e w'' hh => ?_
  obtain ⟨v, rfl, hk⟩ := hh
  subst hd
  exact hK _ _ hk
end
def Cells' (w : World) (b o : Nat) : Nat → List Value → Prop
  | _, [] => True
  | n, c :: cs => w.cell? ⟨b, o + n, none⟩ = some c ∧ Cells' w b o (n + 1) cs
/-- From the address a on lie these cells. -/
def Cells (w : World) (a : Addr) : List Value → Prop
  | [] => True
  | c :: cs => w.cell? a = some c ∧ Cells' w a.block a.off 1 cs
theorem Cells'.imp {w w1 : World} {b o : Nat} (h : ∀ a v, w.cell? a = some v → w1.cell? a = some v) : ∀ {n : Nat} {cs : List Value}, Cells' w b o n cs → Cells' w1 b o n cs
  | _, [], _ => trivial
  | _, _ :: _, ⟨h1, h2⟩ => ⟨h _ _ h1, Cells'.imp h h2⟩
theorem Cells.imp {w w1 : World} {a : Addr} (h : ∀ a v, w.cell? a = some v → w1.cell? a = some v) : ∀ {cs : List Value}, Cells w a cs → Cells w1 a cs
  | [], _ => trivial
  | _ :: _, ⟨h1, h2⟩ => ⟨h _ _ h1, Cells'.imp h h2⟩
theorem Cells_below {w w1 : World} {a : Addr} {cs : List Value} (h : Cells w a cs) (hb : Below w.heap.size w w1) : Cells w1 a cs := h.imp (fun _ _ hc => pw_cell_below hb hc)
theorem Cells_alloc {w : World} {a : Addr} {cs : List Value} (h : Cells w a cs) (o : Obj) : Cells (w.alloc o) a cs := Cells_below h (below_alloc (Below.refl _ _) o)
theorem Cells_drewN {w : World} {a : Addr} {cs : List Value} (h : Cells w a cs) (n : Nat) : Cells (w.drewN n) a cs := Cells_below h (pw_below_drewN (Below.refl _ _) n)
theorem Cells_drew {w : World} {a : Addr} {cs : List Value} (h : Cells w a cs) : Cells w.drew a cs := Cells_below h (below_drew (Below.refl _ _))
theorem Cells'_blk {w : World} {g t : Nat} {arr : Array Value} (h : w.heap[g]? = some (.cells arr t (0, 0))) : ∀ (cs : List Value) (n : Nat), arr.toList.drop n = cs → Cells' w g 0 n cs
  | [], _, _ => trivial
  | c :: cs, n, e => by
    have hn : arr[n]? = some c := by
      have : (arr.toList.drop n)[0]? = some c := by rw [e]; rfl
      rw [List.getElem?_drop] at this
      simpa using this
    refine ⟨?_, Cells'_blk h cs (n + 1) ?_⟩
    · rw [Nat.zero_add]
      exact (blk_cell h n).trans hn
    · have := congrArg (List.drop 1) e
      rwa [List.drop_drop] at this
/-- A variable in memory, whole. -/
theorem Cells_blk {w : World} {g t : Nat} {cs : List Value} (h : w.heap[g]? = some (.cells cs.toArray t (0, 0))) : Cells w ⟨g, 0, none⟩ cs := by
  cases cs with
  | nil => trivial
  | cons c cs =>
    refine ⟨(blk_cell h 0).trans (by simp), ?_⟩
    exact Cells'_blk h cs 1 (by simp)
theorem Cells'_shift {w : World} {b o : Nat} : ∀ {n m : Nat} {cs : List Value}, Cells' w b o (n + m) cs → Cells' w b (o + n) m cs
  | _, _, [], _ => trivial
  | n, m, c :: cs, ⟨h1, h2⟩ => ⟨by rw [Nat.add_assoc]; exact h1, Cells'_shift (n := n) (m := m + 1) h2⟩
theorem Cells'_drop {w : World} {b o : Nat} : ∀ {k n : Nat} {cs : List Value}, Cells' w b o n cs → Cells' w b o (n + k) (cs.drop k)
  | 0, _, _, h => h
  | k + 1, n, [], h => trivial
  | k + 1, n, c :: cs, ⟨_, h2⟩ => by
    have := Cells'_drop (k := k) h2
    rwa [Nat.add_right_comm, Nat.add_assoc] at this
theorem Cells'_take {w : World} {b o : Nat} : ∀ {k n : Nat} {cs : List Value}, Cells' w b o n cs → Cells' w b o n (cs.take k)
  | 0, _, _, _ => trivial
  | k + 1, _, [], _ => trivial
  | k + 1, _, c :: cs, ⟨h1, h2⟩ => ⟨h1, Cells'_take h2⟩
/-- A part of it: n cells from place i on. -/
theorem Cells_sub {w : World} {a : Addr} {cs ds : List Value} (h : Cells w a cs) (i n : Nat) (e : (cs.drop (i + 1)).take n = ds) : Cells w ⟨a.block, a.off + (i + 1), none⟩ ds := by
  subst e
  cases cs with
  | nil => simp [Cells]
  | cons c cs =>
    have h2 : Cells' w a.block a.off (1 + i) ((cs.drop i).take n) := Cells'_take (Cells'_drop h.2)
    rw [List.drop_succ_cons]
    cases hd : (cs.drop i).take n with
    | nil => trivial
    | cons d ds =>
      rw [hd] at h2
      refine ⟨by have := h2.1; rwa [Nat.add_comm 1 i] at this, ?_⟩
      have h3 := h2.2
      rw [show 1 + i + 1 = (i + 1) + 1 by omega] at h3
      exact Cells'_shift h3
theorem Cells.first {w : World} {a : Addr} {cs ds : List Value} (h : Cells w a cs) (n : Nat) (e : cs.take n = ds) : Cells w a ds := by
  subst e
  cases cs with
  | nil => simp [Cells]
  | cons c cs =>
    cases n with
    | zero => trivial
    | succ n => exact ⟨h.1, Cells'_take h.2⟩
/-! ### A map from int to int that the call makes -/
def im0 (_c : Int) : Int := 0
def imPut (f : Int → Int) (k v c : Int) : Int := if c = k then v else f c
/-- Block b is a map of at most n entries, from int (type k) to int (type e), that reads as f. -/
def IMap (P : Program) (k e : TypeId) (W : World) (b n : Nat) (f : Int → Int) : Prop :=
  ∃ D : DataW Unit, W.ownsMap P k (plainElem P e) b n D ∧ Maps.IsMap D ∧ ∀ c : Int, D.atKey (.int .i64 c) (.lit (.int .i64 0)) = .lit (.int .i64 (f c))
theorem IMap.kept {P : Program} {k e : TypeId} {W W' : World} {b n : Nat} {f : Int → Int} (h : IMap P k e W b n f) {row : Option Nat} (hg : W.grownBy W' row) (hne : some b ≠ row) : IMap P k e W' b n f := by
  obtain ⟨D, h1, h2, h3⟩ := h
  exact ⟨D, h1.kept hg hne, h2, h3⟩
theorem IMap.alloc {P : Program} {k e : TypeId} {W : World} {b n : Nat} {f : Int → Int} (h : IMap P k e W b n f) (o : Obj) : IMap P k e (W.alloc o) b n f := h.kept (World.grownBy_alloc W o none) (by simp)
theorem IMap.drewN {P : Program} {k e : TypeId} {W : World} {b n : Nat} {f : Int → Int} (h : IMap P k e W b n f) (m : Nat) : IMap P k e (W.drewN m) b n f := h
theorem IMap.drew {P : Program} {k e : TypeId} {W : World} {b n : Nat} {f : Int → Int} (h : IMap P k e W b n f) : IMap P k e W.drew b n f := h
theorem IMap.lt {P : Program} {k e : TypeId} {W : World} {b n : Nat} {f : Int → Int} (h : IMap P k e W b n f) : b < W.heap.size := by
  obtain ⟨D, h1, _⟩ := h
  exact h1.lt
section
variable {P : Program} {ops : Array Oper} {Q : Exit → Act → World → Prop}
theorem gate_makeMap {rest : List Oper} {o : Oper} {a : Act} {W : World} {t : TypeId} (_ho : o.op = .makeMap t none) (h : wpList P ops Q (o :: rest) a W) : wpList P ops Q (o :: rest) a W := h
theorem gate_mapUpdate {rest : List Oper} {o : Oper} {a : Act} {W : World} {t : TypeId} {m x v : Operand} (_ho : o.op = .mapUpdate t m x v) (h : wpList P ops Q (o :: rest) a W) : wpList P ops Q (o :: rest) a W := h
theorem gate_lookup {rest : List Oper} {o : Oper} {a : Act} {W : World} {t : TypeId} {m x : Operand} (_ho : o.op = .lookup t m x false) (h : wpList P ops Q (o :: rest) a W) : wpList P ops Q (o :: rest) a W := h
theorem immake_event {rest : List Oper} {o : Oper} {a : Act} {W : World} (hg : o.guard = none) {t : TypeId} (hop : o.op = .makeMap t none) (k e : TypeId)
    (h : ∀ gm w2, gm = W.heap.size → IMap P k e w2 gm 0 im0 → Below W.heap.size W w2 → wpList P ops Q rest (a.put o.dst (.map (some gm))) w2) : wpList P ops Q (o :: rest) a W := by
  refine wpList_plain hg fun K hK => ?_
  unfold Oper.wp
  simp only [execOp, hop]
  simp [run_makeMap, Result.andThen]
  exact hK _ _ (h _ _ rfl ⟨.map [], World.ownsMap_made W P k _, Maps.isMap_empty, fun c => rfl⟩ (below_alloc (Below.refl _ _) _))
theorem imput_event {rest : List Oper} {o : Oper} {a : Act} {W : World} (hg : o.guard = none) {t : TypeId} {m x v : Operand} (hop : o.op = .mapUpdate t m x v) {k e : TypeId} (ht : P.underlying t = some (.map k e)) (hk : P.underlying k = some (.int .i64)) (he : P.underlying e = some (.int .i64))
    {b n : Nat} {f : Int → Int} (hm : a.eval m = .map (some b)) (hown : IMap P k e W b n f) (hn : n < 1000000) (key val : Int) (hx : a.eval x = .int .i64 key) (hv : a.eval v = .int .i64 val) (hkey : (Lit.int .i64 key).wf = true) (hval : (Lit.int .i64 val).wf = true)
    (h : ∀ w2, IMap P k e w2 b (n + 1) (imPut f key val) → W.grownBy w2 (some b) → wpList P ops Q rest (a.put o.dst undef) w2) : wpList P ops Q (o :: rest) a W := by
  obtain ⟨D, h1, h2, h3⟩ := hown
  refine wpList_mapUpdate_own W hg m x v t hop k e (Maps.int_keyed hk) ht _ b n D hm h1 (by unfold maxLen; omega) _ _ (.int .i64 key) hx hv (Maps.keyOf_int_mk hk hkey) (.lit (.int .i64 val)) [] (plainElem_int he hval) ?_
  intro w' ho hgr
  refine h w' ⟨_, ho, h2.put _ _, fun c => ?_⟩ hgr
  unfold imPut
  by_cases hc : c = key
  · subst hc
    rw [if_pos rfl]
    exact Maps.atKey_put_same h2 (by simp [WideAt.IsKeyLit]) _ _
  · rw [if_neg hc, Maps.atKey_put_other (by simpa using hc)]
    exact h3 c
theorem imget_event {rest : List Oper} {o : Oper} {a : Act} {W : World} (hg : o.guard = none) {t : TypeId} {m x : Operand} (hop : o.op = .lookup t m x false) {k e : TypeId} (ht : P.underlying t = some (.map k e)) (hk : P.underlying k = some (.int .i64)) (he : P.underlying e = some (.int .i64)) (hz : ∀ w : World, (zeroValue e).run P w = .ok (.int .i64 0) w)
    {b n : Nat} {f : Int → Int} (hm : a.eval m = .map (some b)) (hown : IMap P k e W b n f) (key : Int) (hx : a.eval x = .int .i64 key) (hkey : (Lit.int .i64 key).wf = true)
    (h : wpList P ops Q rest (a.put o.dst (.int .i64 (f key))) W) : wpList P ops Q (o :: rest) a W := by
  obtain ⟨D, h1, h2, h3⟩ := hown
  refine wpList_lookup_own_int W hg m x t hop k e .i64 (Maps.int_keyed hk) ht he (hz W) b n D hm h1 _ (.int .i64 key) hx (Maps.keyOf_int_mk hk hkey) ?_
  intro c hat _
  rw [h3 key] at hat
  injection hat with hat
  injection hat with _ hat
  subst hat
  exact h
/-- A map is made, in a region that draws its order. -/
theorem imm_one {oi : Oper} {N : Option Tmp} {a : Act} {W : World} {K : Act → World → Prop} (hw : Region.wanted oi (yielded ops a.tmps) = true) (hN : oi.dst = N) {t : TypeId} (hop : oi.op = .makeMap t none) (k e : TypeId)
    (h : ∀ b w2, b = W.heap.size → IMap P k e w2 b 0 im0 → Below W.heap.size W w2 → K (a.put N (.map (some b))) w2) : if Region.wanted oi (yielded ops a.tmps) = true then Oper.wp P oi a W K Q else K (a.put N undef) W := by
  rw [if_pos hw]
  subst hN
  unfold Oper.wp
  simp only [execOp, hop]
  simp [run_makeMap, Result.andThen]
  exact h _ _ rfl ⟨.map [], World.ownsMap_made W P k _, Maps.isMap_empty, fun c => rfl⟩ (below_alloc (Below.refl _ _) _)
theorem imput_one {oi : Oper} {a : Act} {W : World} {K : Act → World → Prop} (hw : Region.wanted oi (yielded ops a.tmps) = true) (hN : oi.dst = none) {t : TypeId} {m x v : Operand} (hop : oi.op = .insert t m x v) {k e : TypeId} (ht : P.underlying t = some (.map k e)) (hk : P.underlying k = some (.int .i64)) (he : P.underlying e = some (.int .i64))
    {b n : Nat} {f : Int → Int} (hm : a.eval m = .map (some b)) (hown : IMap P k e W b n f) (hn : n < 1000000) (key val : Int) (hx : a.eval x = .int .i64 key) (hv : a.eval v = .int .i64 val) (hkey : (Lit.int .i64 key).wf = true) (hval : (Lit.int .i64 val).wf = true)
    (h : ∀ w2, IMap P k e w2 b (n + 1) (imPut f key val) → W.grownBy w2 (some b) → K a w2) : if Region.wanted oi (yielded ops a.tmps) = true then Oper.wp P oi a W K Q else K (a.put none undef) W := by
  obtain ⟨D, h1, h2, h3⟩ := hown
  obtain ⟨w', hrun, r1, r2⟩ := h1.update (Maps.int_keyed hk) ht (by unfold maxLen; omega) (Maps.keyOf_int_mk hk hkey) (plainElem_int he hval)
  refine Go.Proofs.YtpmcedhcdmpmlaaDoorW.PrintLast.skip_ (w1 := w') hw hN (by simp [execOp, hop, hm, hx, hv, hrun, Result.andThen]) (h w' ⟨_, r1, h2.put _ _, fun c => ?_⟩ r2)
  unfold imPut
  by_cases hc : c = key
  · subst hc
    rw [if_pos rfl]
    exact Maps.atKey_put_same h2 (by simp [WideAt.IsKeyLit]) _ _
  · rw [if_neg hc, Maps.atKey_put_other (by simpa using hc)]
    exact h3 c
theorem imget_one {oi : Oper} {N : Option Tmp} {a : Act} {W : World} {K : Act → World → Prop} (hw : Region.wanted oi (yielded ops a.tmps) = true) (hN : oi.dst = N) {t : TypeId} {m x : Operand} (hop : oi.op = .lookup t m x false) {k e : TypeId} (ht : P.underlying t = some (.map k e)) (hk : P.underlying k = some (.int .i64)) (he : P.underlying e = some (.int .i64)) (hz : ∀ w : World, (zeroValue e).run P w = .ok (.int .i64 0) w)
    {b n : Nat} {f : Int → Int} (hm : a.eval m = .map (some b)) (hown : IMap P k e W b n f) (key : Int) (hx : a.eval x = .int .i64 key) (hkey : (Lit.int .i64 key).wf = true)
    (h : K (a.put N (.int .i64 (f key))) W) : if Region.wanted oi (yielded ops a.tmps) = true then Oper.wp P oi a W K Q else K (a.put N undef) W := by
  rw [if_pos hw]
  subst hN
  obtain ⟨D, h1, h2, h3⟩ := hown
  obtain ⟨c, hrun, hat, hwc⟩ := h1.lookup_int (Maps.int_keyed hk) ht he (hz W) (Maps.keyOf_int_mk hk hkey)
  unfold Oper.wp
  simp [execOp, hop, hm, hx, hrun, Result.andThen]
  rw [h3 key] at hat
  injection hat with hat
  injection hat with _ hat
  rw [← hat]
  exact h
theorem IMap.congr {k e : TypeId} {W : World} {b n : Nat} {f g : Int → Int} (h : IMap P k e W b n f) (hfg : ∀ c, f c = g c) : IMap P k e W b n g := (funext hfg : f = g) ▸ h
end
theorem spot_none {w : World} {a : Addr} {v : Value} (h : w.cell? a = some v) : a.spot = none := by
  unfold World.cell? at h
  split at h
  · split at h
    · cases h
    · rename_i hs
      cases hb : a.spot
      · rfl
      · rw [hb] at hs; exact absurd rfl hs
  · cases h
/-- The cells of a row of strings that is read. -/
theorem strCells {w : World} {A : Option Addr} {n : Nat} {xs : List ByteArray} (h : Kd.C Kd.string w A n xs) (hn : 0 < n) : ∃ b o, A = some ⟨b, o, none⟩ ∧ b < w.heap.size ∧ ∀ (j : Nat) x, xs[j]? = some x → w.cell? ⟨b, o + j, none⟩ = some (.string x) := by
  obtain ⟨ad, e, h0⟩ := Kd.at_string h 0 (by decide) (by omega)
  have h0' : w.cell? ad = some (.string (rdOf ByteArray.empty xs 0)) := by simpa [Addr.add] using h0
  have hs := spot_none h0'
  have hb := World.block_lt_of_cell? w _ h0'
  obtain ⟨b, o, s⟩ := ad
  obtain rfl : s = none := hs
  refine ⟨b, o, e, hb, fun j x hx => ?_⟩
  have hl := h.1
  have hj : j < xs.length := by
    rcases Nat.lt_or_ge j xs.length with hlt | hge
    · exact hlt
    · rw [List.getElem?_eq_none hge] at hx; cases hx
  obtain ⟨ad2, e2, h2⟩ := Kd.at_string h (j : Int) (by omega) (by omega)
  rw [e] at e2
  obtain rfl := Option.some.inj e2
  have hx2 : rdOf ByteArray.empty xs (j : Int) = x := by
    simp only [rdOf, Int.toNat_natCast, List.getD_eq_getElem?_getD, hx, Option.getD_some]
  rw [hx2] at h2
  by_cases hz : j = 0
  · subst hz
    simpa [Addr.add] using h2
  · simpa [Addr.add, hz] using h2
end Go.Proofs.YtpmcedhcdmpmlaaDoor.Ext
