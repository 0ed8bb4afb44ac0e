/- FormatTerm's closures: the text as bytes; what writes some texts. No condition beyond the sizes named. -/
import Derived.Test.YtgplgphchdgedaaDoorZFormatTermSh
import Derived.Test.YtgplgphchdgedaaDoorZFormatTermPx0M
import Derived.Test.YtgplgphchdgedaaDoorZFormatTermPx21M
import Derived.Test.YtgplgphchdgedaaDoorZFormatTermPx24M
import Derived.Test.YtgplgphchdgedaaDoorZFormatTermPx26M
import Derived.Shelf.Strings.BuilderK
import Derived.Test.YtgplgphchdgedaaDoorZFormatTermWLastM
import Derived.Tactics2
import Derived.BigCall
import Derived.Test.YtgplgphchdgedaaDoorZFormatTermPx15M
section
namespace Go.Proofs.YtgplgphchdgedaaDoor.Px
open Go.RowKit Go.Proofs.YtgplgphchdgedaaDoorW.PrintWords Go.Proofs.YtgplgphchdgedaaDoorW.PrintLast Go.Proofs.YtgplgphchdgedaaDoorW.PrintMore Go.Proofs.YtgplgphchdgedaaDoor.Pl Go.Proofs.YtgplgphchdgedaaDoor.Ext
set_option linter.unusedVariables false
set_option linter.unusedSimpArgs false
def boolB (n : Int) : ByteArray := if n = 1 then (⟨#[35, 116]⟩ : ByteArray) else (⟨#[35, 102]⟩ : ByteArray)
theorem impl_boolText_eq (n : Int) : impl_boolText.f n = some (boolB n) := by unfold impl_boolText.f boolB; split <;> rfl
def bb (s : ByteArray) : List UInt8 := s.data.toList
def cat (xs : List ByteArray) : List UInt8 := (xs.map bb).flatten
theorem cat_take {xs : List ByteArray} {i : Nat} (h : i < xs.length) : cat (xs.take (i + 1)) = cat (xs.take i) ++ bb (xs.getD i ByteArray.empty) := by
  unfold cat
  rw [List.take_succ_eq_append_getElem h, List.map_append, List.flatten_append]
  simp [List.getD_eq_getElem?_getD, h]
theorem cat_le {xs : List ByteArray} {i : Nat} (h : i < xs.length) : (cat (xs.take i)).length + (bb (xs.getD i ByteArray.empty)).length ≤ (cat xs).length := by
  have h1 : cat xs = cat (xs.take (i + 1)) ++ cat (xs.drop (i + 1)) := by unfold cat; rw [← List.flatten_append, ← List.map_append, List.take_append_drop]
  rw [h1, cat_take h, List.length_append, List.length_append]
  omega
def gt (ts : List (List UInt8)) (i : Nat) : List UInt8 := ts.getD i []
/-- The fields of a record. -/
def recL : List UInt8 → List ByteArray → List (List UInt8) → List UInt8
  | _, [], _ => []
  | _, _ :: _, [] => []
  | m, s :: ls, t :: ts => m ++ bb s ++ [61] ++ t ++ recL [44] ls ts
def bodyL (k : Int) (nm : ByteArray) (n : Int) (t : S33) (ls : List ByteArray) (ts : List (List UInt8)) : List UInt8 :=
  if k = 1 then bb nm else if k = 2 then bb (itB n) else if k = 3 then bb (boolB n) else if k = 12 then [64] ++ bb nm
  else if k = 4 then (if ts.length = 1 then [40, 33] ++ gt ts 0 ++ [41] else [40] ++ gt ts 0 ++ bb nm ++ gt ts 1 ++ [41])
  else if k = 5 then recL [123] ls ts ++ [125]
  else if k = 6 then gt ts 0 ++ ([46] ++ bb nm)
  else if k = 7 then [91, 58] ++ bb (txT t) ++ [93]
  else if k = 8 then [91] ++ gt ts 0 ++ [93]
  else if k = 9 then [40] ++ gt ts 0 ++ [43, 43] ++ gt ts 1 ++ [41]
  else if k = 10 then ([40, 102, 111, 114, 32] ++ bb nm ++ [60, 45]) ++ gt ts 0 ++ [32] ++ gt ts 1 ++ [41]
  else if k = 11 then [40, 105, 102, 32] ++ gt ts 0 ++ [32] ++ gt ts 1 ++ [32] ++ gt ts 2 ++ [41]
  else if k = 13 then ([40, 92] ++ bb nm ++ [58] ++ bb (txT t) ++ [46]) ++ gt ts 0 ++ [41]
  else if k = 14 then [40] ++ gt ts 0 ++ [32] ++ gt ts 1 ++ [41]
  else if k = 15 then [40, 101, 109, 112, 116, 121, 32] ++ gt ts 0 ++ [41]
  else [40, 99, 111, 117, 110, 116, 32] ++ gt ts 0 ++ [41]
mutual
def txL : S36 → List UInt8
  | ⟨k, nm, n, t, ls, xs⟩ => bodyL k nm n t ls (txLS xs)
def txLS : List S36 → List (List UInt8)
  | [] => []
  | x :: r => txL x :: txLS r
end
theorem txLS_map (xs : List S36) : txLS xs = xs.map txL := by
  induction xs with
  | nil => rfl
  | cons x r ih => simp [txLS, ih]
theorem txL_eq (x : S36) : txL x = bodyL x.f0 x.f1 x.f2 x.f3 x.f4 (x.f5.map txL) := by
  obtain ⟨a, nm, n, t, ls, xs⟩ := x
  rw [txL, txLS_map]
theorem gt_map {xs : List S36} {i : Nat} (h : i < xs.length) : gt (xs.map txL) i = txL (xs.getD i z36) := by simp [gt, List.getD_eq_getElem?_getD, h]
/-- How many parts a node has, at least. -/
def manyL (k : Int) : Nat := if k = 9 ∨ k = 10 ∨ k = 14 then 2 else if k = 11 then 3 else if k = 6 ∨ k = 8 ∨ k = 13 ∨ k = 15 ∨ k = 16 then 1 else 0
inductive GoodE : S36 → Prop
  | mk {x : S36} : (x.f0 = 1 ∨ x.f0 = 2 ∨ x.f0 = 3 ∨ x.f0 = 4 ∨ x.f0 = 5 ∨ x.f0 = 6 ∨ x.f0 = 7 ∨ x.f0 = 8 ∨ x.f0 = 9 ∨ x.f0 = 10 ∨ x.f0 = 11 ∨ x.f0 = 12 ∨ x.f0 = 13 ∨ x.f0 = 14 ∨ x.f0 = 15 ∨ x.f0 = 16) → manyL x.f0 ≤ x.f5.length →
      (x.f0 = 4 → x.f5.length = 1 ∨ x.f5.length = 2) → (x.f0 = 5 → x.f5.length = x.f4.length ∧ x.f4.length ≤ 1048576) → (x.f0 = 2 → impl_FormatInt.f x.f2 = some (itB x.f2)) → (x.f0 = 7 ∨ x.f0 = 13 → ∃ k, impl_typeText.f k x.f3.f0 x.f3.f1 x.f3.f2 = some (txT x.f3)) →
      x.f1.size ≤ 1048576 → (txT x.f3).size ≤ 1073741824 → (∀ y ∈ x.f5, GoodE y) → GoodE x
/-- A term that lies at an address. -/
def Tr (w : World) (ad0 : Addr) (x : S36) : Prop := ∃ A4 c4 A5 c5 A6 c6 A7 c7, Cells w ad0 [.int .i64 x.f0, .string x.f1, .int .i64 x.f2, .int .i64 x.f3.f0, .slice A4 x.f3.f1.length c4, .slice A5 x.f3.f2.length c5, .slice A6 x.f4.length c6, .slice A7 x.f5.length c7] ∧
  (Kd.C Kd.string w A4 x.f3.f1.length x.f3.f1 ∧ x.f3.f1.length ≤ c4) ∧ (Kd.C k33 w A5 x.f3.f2.length x.f3.f2 ∧ x.f3.f2.length ≤ c5) ∧ (Kd.C Kd.string w A6 x.f4.length x.f4 ∧ x.f4.length ≤ c6) ∧ (Kd.C k36 w A7 x.f5.length x.f5 ∧ x.f5.length ≤ c7)
/-- The builder holds l. -/
def Bl (w0 : World) (b : Nat) (l : List UInt8) (w : World) : Prop := Lib.IsBuilderF 64 5 w0.heap.size b (Lib.byteCells l) w
/-- What isn't the builder, nor a row of bytes, stays. -/
def Kp (b : Nat) (w w' : World) : Prop := Lib.OthersKept 5 (some b) w w'
theorem Kp.refl (b : Nat) (w : World) : Kp b w w := Lib.OthersKept.refl _ _ _
theorem Kp.trans {b : Nat} {w w1 w2 : World} (h : Kp b w w1) (k : Kp b w1 w2) : Kp b w w2 := Lib.OthersKept.trans h k
theorem Kp.below {b : Nat} {w W W' : World} (h : Kp b w W) (hb : Below W.heap.size W W') : Kp b w W' := fun k o hk hn ho => (hb.block k (blk_lt (h k o hk hn ho))).trans (h k o hk hn ho)
theorem Bl.step {w0 : World} {b : Nat} {l : List UInt8} {w w' : World} (h : Bl w0 b l w) (hm : ∀ (k : Nat) (c : Array Value) (T : TypeId) (fz : Nat × Nat), w.heap[k]? = some (Obj.cells c T fz) → (T = 64 ∨ T = 5) → w'.heap[k]? = some (Obj.cells c T fz)) : Bl w0 b l w' := by
  have go : ∀ p, Lib.BuilderAtF 64 5 w0.heap.size b p (Lib.byteCells l) w → Lib.BuilderAtF 64 5 w0.heap.size b p (Lib.byteCells l) w' := by
    rintro p ⟨hB, v, hb, ⟨h1, h2⟩, hne⟩
    refine ⟨hB, v, hm _ _ _ _ hb (.inl rfl), ⟨h1, ?_⟩, hne⟩
    rcases h2 with h2 | ⟨g, cap, cur, fz, hv, hg, hgc, rest⟩
    · exact .inl h2
    · exact .inr ⟨g, cap, cur, fz, hv, hg, hm _ _ _ _ hgc (.inr rfl), rest⟩
  rcases h with h | h
  · exact .inl (go _ h)
  · exact .inr (go _ h)
theorem Bl.below {w0 : World} {b : Nat} {l : List UInt8} {w w' : World} (h : Bl w0 b l w) (hb : Below w.heap.size w w') : Bl w0 b l w' := h.step (fun k c T fz hk _ => (hb.block k (blk_lt hk)).trans hk)
theorem Bl.set {w0 : World} {b : Nat} {l : List UInt8} {w : World} (h : Bl w0 b l w) {g : Nat} {cs : Array Value} {T : TypeId} (hg : w.heap[g]? = some (.cells cs T (0, 0))) (h1 : T ≠ 64) (h2 : T ≠ 5) (o : Nat) (v : Value) : Bl w0 b l (w.setCell ⟨g, o, none⟩ v) := h.step (fun k c T' fz hk hT => by
  refine (Below.heap_setCell w ⟨g, o, none⟩ v k (fun e => ?_)).trans hk
  have e' : k = g := e
  rw [e', hg] at hk
  injection hk with hk
  injection hk with _ e2 _
  rcases hT with hT | hT
  · exact h1 (e2.trans hT)
  · exact h2 (e2.trans hT))
theorem Kp.box {w0 : World} {b : Nat} {l : List UInt8} {w w' : World} (h : Kp b w w') (hB : Bl w0 b l w) {k : Nat} {cs : Array Value} {T : TypeId} (hk : w.heap[k]? = some (.cells cs T (0, 0))) (h1 : T ≠ 64) (h2 : T ≠ 5) : w'.heap[k]? = some (.cells cs T (0, 0)) :=
  h k _ hk (fun e => by
    injection e with e
    subst e
    rcases hB with ⟨_, v, hb, _⟩ | ⟨_, v, hb, _⟩ <;> (rw [hb] at hk; injection hk with hk; injection hk with _ e2 _; exact h1 e2.symm)) (fun c fz e => by injection e with _ e2 _; exact h2 e2)
theorem row_lit {w : World} {g : Nat} {xs : List ByteArray} (hx : xs.length ≤ 1000000) (hg : w.heap[g]? = some (.cells (xs.map Value.string).toArray 9 (0, 0))) : Kd.C Kd.string w (some ⟨g, 0, none⟩) xs.length xs := by
  refine ⟨rfl, by omega, fun _ => ⟨_, rfl, fun j p hj => ⟨[.string p], rfl, rfl, fun i u hu => ?_⟩⟩⟩
  have hi : i = 0 := by
    cases i with
    | zero => rfl
    | succ i => simp at hu
  subst hi
  obtain rfl : Value.string p = u := by simpa using hu
  rw [add_at, Lib.cell_of_heap hg]
  have : Kd.string.sz = 1 := rfl
  simp [this, hj]
/-- A call of a function value that is known, with one captured variable, in a plain region. -/
theorem goesV1_ {P : Program} {ops : Array Oper} {Q : Exit → Act → World → Prop} {rest : List Oper} {oi : Oper} {a : Act} {w : World} (t : Tmp) (N : Option Tmp) (hd : oi.dst = N) (hg : oi.guard = none) {f : FuncId} {Cs : Array Value} (hv : a.eval (.tmp t) = .func (.func f) #[] Cs) {fn : Func} {ars : Array Operand} {ts : Array TypeId} (hf : P.funcs[f]? = some fn) (hname : (fn.name == "runtime.NumGoroutine") = false) (hb : fn.body.isSome = true) (args : Array Value)
    (hop : oi.op = .call { callee := .value (.tmp t), args := ars, argTypes := ts }) (hargs : ars.map a.eval ++ Cs = args)
    (h : Calls P f args w fun e w' => ∃ v, e = .returned v ∧ wpList P ops Q rest (a.put N v) w') : wpList P ops Q (oi :: rest) a w := by
  refine wpList_plain hg fun K hK => ?_
  have he := enters_ hf hname hb args w
  have hrun : (execOp a.eval oi).run P w = .ok (.enter f args) w := by
    unfold execOp
    subst hargs
    simp [hop, resolve, Deferred.ofValue, invoke, hv, he]
  unfold Oper.wp
  rw [hrun, Oper.upon_enter]
  refine h.mono fun e w'' hh => ?_
  obtain ⟨v, rfl, hk⟩ := hh
  subst hd
  exact hK _ _ hk
/-- .. in a region that draws its order. -/
theorem goesC1_ {P : Program} {ops : Array Oper} {Q : Exit → Act → World → Prop} {oi : Oper} {N : Option Tmp} {a : Act} {w : World} {K : Act → World → Prop} {f : FuncId} {fn : Func} {ars : Array Operand} {ts : Array TypeId} {Cs : Array Value} (t : Tmp) (hv : a.eval (.tmp t) = .func (.func f) #[] Cs) (hf : P.funcs[f]? = some fn) (hname : (fn.name == "runtime.NumGoroutine") = false) (hb : fn.body.isSome = true) (args : Array Value)
    (hw : Region.wanted oi (yielded ops a.tmps) = true) (hN : oi.dst = N) (hop : oi.op = .call { callee := .value (.tmp t), args := ars, argTypes := ts }) (hargs : ars.map a.eval ++ Cs = args)
    (h : Calls P f args w fun e w' => ∃ v, e = .returned v ∧ K (a.put N v) w') : if Region.wanted oi (yielded ops a.tmps) = true then Oper.wp P oi a w K Q else K (a.put N undef) w := by
  refine call_ f args hw hN ?_ h
  have he := enters_ hf hname hb args w
  unfold execOp
  subst hargs
  simp [hop, resolve, Deferred.ofValue, invoke, hv, he]
set_option maxHeartbeats 8000000 in
set_option maxRecDepth 100000 in
theorem put_go (w0 : World) (b bo : Nat) (Ar : Option Addr) (c : Nat) (xs : List ByteArray) (l : List UInt8) (w : World) (hn : xs.length ≤ 1000) (hB : Bl w0 b l w) (hb : Below w0.heap.size w0 w) (hbo : w.heap[bo]? = some (.cells #[.pointer (some ⟨b, 0, none⟩)] 61 (0, 0))) (hr : ∀ w', Kp b w w' → Kd.C Kd.string w' Ar xs.length xs) (hl : l.length + (cat xs).length ≤ 140737488355328) :
    Calls Tryd.prog 41 #[.slice Ar xs.length c, .pointer (some ⟨bo, 0, none⟩)] w fun e w' => e = .returned (.tuple #[]) ∧ Bl w0 b (l ++ cat xs) w' ∧ Below w0.heap.size w0 w' ∧ Kp b w w' := by
  have HB0 := Aside0.mk hB; have HB := Aside0.mk hB; have HW := Aside0.mk hb; have HBO := Aside0.mk hbo; have HR := Aside0.mk hr; have HL := Aside0.mk hl; have HN := Aside0.mk hn; have HK := Aside0.mk (Kp.refl b w)
  clear hB hb hbo hr hl hn
  go_enter Tryd.func41, Tryd.ntmps41
  go_wp2
  go_loopg [4, 7] xs.length (fun gq v4 v7 w' => ∃ (i : Nat), v7 = .int .i64 (i : Int) ∧ Aside0 (i + gq = xs.length) ∧ Aside0 (Bl w0 b (l ++ cat (xs.take i)) w') ∧ Aside0 (Below w0.heap.size w0 w') ∧ Aside0 (Kp b w w'))
  case atStart => exact ⟨0, rfl, ⟨by omega⟩, ⟨by rw [List.take_zero]; simpa [cat] using HB.out⟩, HW, HK⟩
  case round =>
    clear HB HW HK
    obtain ⟨i, rfl, HI, HB, HW, HK⟩ := hrel
    by_cases d1 : i < xs.length
    · have HD := Aside0.mk d1
      have d2 : (i : Int) < (xs.length : Int) := by omega
      have d3 : decide ((i : Int) < (xs.length : Int)) = true := decide_eq_true d2
      have d4 := eq_true d2
      have d5 : (0 ≤ (i : Int)) = True := eq_true (by omega)
      obtain ⟨ad, eA, hx⟩ := Kd.at_string (HR.out _ HK.out) (i : Int) (by omega) d2
      subst eA
      have hxo : wr.cell? ⟨bo, 0, none⟩ = some (.pointer (some ⟨b, 0, none⟩)) := (blk_cell (HK.out.box HB0.out HBO.out (by decide) (by decide)) 0).trans rfl
      have hwi : wrap64 ((i : Int) + 1) = ((i + 1 : Nat) : Int) := by have := HN.out; unfold wrap64; omega
      rw [rdOf_str] at hx
      simp only [Int.toNat_natCast] at hx
      clear d1 d2
      go_wp2_with (fail)
      refine (bld_write _ b _ (xs.getD i ByteArray.empty) _ HB.out (by have := HL.out; have := cat_le HD.out; rw [Lib.byteCells_length, List.length_append]; unfold bb at this; have e : (xs.getD i ByteArray.empty).size = (xs.getD i ByteArray.empty).data.toList.length := rfl; omega) (below_size HW.out)).mono ?_
      rintro e w2 ⟨rfl, hB2, hb2, hk2⟩
      (try refine ⟨_, rfl, ?_⟩)
      clear hx hxo
      try go_wp2
      go_roundg (gk - 1)
      case measure => have := HI.out; have := HD.out; omega
      case rel => exact ⟨i + 1, (by first | rfl | rw [hwi] | simp [hwi]), ⟨by have := HI.out; have := HD.out; omega⟩, ⟨by rw [cat_take HD.out, ← List.append_assoc]; rw [Lib.strCells_eq, ← Lib.byteCells_append] at hB2; exact hB2⟩, ⟨HW.out.trans hb2⟩, ⟨HK.out.trans hk2⟩⟩
    · have d3 : decide ((i : Int) < (xs.length : Int)) = false := decide_eq_false (by omega)
      have d4 : ((i : Int) < (xs.length : Int)) = False := eq_false (by omega)
      have hz : Aside0 (xs.take i = xs) := ⟨List.take_of_length_le (by omega)⟩
      clear d1
      go_wp2
      (first | go_ret | go_end0 | refine bodyPost_ret (results_none rfl _ _ _) rfl ?_)
      exact ⟨rfl, by rw [← hz.out] ; rw [hz.out]; have := HB.out; rwa [hz.out] at this, HW.out, HK.out⟩
theorem putX (w0 : World) (b bo : Nat) (xs : List ByteArray) (t : List UInt8) (l : List UInt8) (W : World) (ht : cat xs = t) (hn : xs.length ≤ 1000) (hB : Bl w0 b l W) (hb : Below w0.heap.size w0 W) (hbo : W.heap[bo]? = some (.cells #[.pointer (some ⟨b, 0, none⟩)] 61 (0, 0))) (hl : l.length + t.length ≤ 140737488355328) :
    Calls Tryd.prog 41 #[.slice (some ⟨W.heap.size, 0, none⟩) xs.length xs.length, .pointer (some ⟨bo, 0, none⟩)] (W.alloc (.cells (xs.map Value.string).toArray 9)) fun e w' => e = .returned (.tuple #[]) ∧ Bl w0 b (l ++ t) w' ∧ Below w0.heap.size w0 w' ∧ Kp b W w' := by
  subst ht
  have hB1 : Bl w0 b l (W.alloc (.cells (xs.map Value.string).toArray 9)) := hB.below (below_alloc (Below.refl _ _) _)
  refine (put_go w0 b bo _ _ xs l _ hn hB1 (below_alloc hb _) (blk_alloc hbo _) (fun w' hk => row_lit (by omega) (hk.box hB1 (blk_new W _) (by decide) (by decide))) hl).mono ?_
  rintro e w' ⟨rfl, h1, h2, h3⟩
  exact ⟨rfl, h1, h2, (Kp.below (Kp.refl b W) (below_alloc (Below.refl _ _) _)).trans h3⟩
end Go.Proofs.YtgplgphchdgedaaDoor.Px
end
section
namespace Go.Proofs.YtgplgphchdgedaaDoor.Px
set_option maxHeartbeats 8000000
set_option maxRecDepth 100000
open Go.RowKit Go.Proofs.YtgplgphchdgedaaDoor.Ext Go.Proofs.YtgplgphchdgedaaDoorW.PrintWords Go.Proofs.YtgplgphchdgedaaDoorW.PrintLast Go.Proofs.YtgplgphchdgedaaDoorW.PrintMore
attribute [local go_sem] max2_int min2_int max_two min_two max_three min_three max_four min_four   -- for this text's walks alone
set_option linter.unusedVariables false
set_option linter.unusedSimpArgs false

mutual
def laws_eqTerm.f : Nat → Int → ByteArray → Int → Int → List ByteArray → List (S33) → List ByteArray → List (S36) → Int → ByteArray → Int → Int → List ByteArray → List (S33) → List ByteArray → List (S36) → Option (Bool)
 | 0, _, _, _, _, _, _, _, _, _, _, _, _, _, _, _, _ => none
 | k + 1, a0_0, a0_1, a0_2, a0_3, l0_4, l0_5, l0_6, l0_7, a1_0, a1_1, a1_2, a1_3, l1_4, l1_5, l1_6, l1_7 => if a0_0 = a1_0 then (if a0_1.toList = a1_1.toList then (if a0_2 = a1_2 then ((laws_eqType.f k a0_3 l0_4 l0_5 a1_3 l1_4 l1_5).bind fun t398 => (if t398 = true then ((laws_eqStringS.f k l0_6 l1_6).bind fun t399 => (if t399 = true then ((laws_eqTermS.f k l0_7 l1_7).bind fun t400 => (if t400 = true then (some true) else (some false))) else (some false))) else (some false))) else (some false)) else (some false)) else (some false)
def laws_eqTermS.l0 : Nat → List (S36) → List (S36) → Int → Option (Bool)
 | 0, _, _, _ => none
 | k + 1, x0, x1, x5 => if x5 < (x0.length : Int) then (if 0 ≤ x5 then (if x5 < (x1.length : Int) then ((laws_eqTerm.f k ((rd_T36 x0 x5).f0) ((rd_T36 x0 x5).f1) ((rd_T36 x0 x5).f2) ((rd_T36 x0 x5).f3.f0) ((rd_T36 x0 x5).f3.f1) ((rd_T36 x0 x5).f3.f2) ((rd_T36 x0 x5).f4) ((rd_T36 x0 x5).f5) ((rd_T36 x1 x5).f0) ((rd_T36 x1 x5).f1) ((rd_T36 x1 x5).f2) ((rd_T36 x1 x5).f3.f0) ((rd_T36 x1 x5).f3.f1) ((rd_T36 x1 x5).f3.f2) ((rd_T36 x1 x5).f4) ((rd_T36 x1 x5).f5)).bind fun t403 => (if t403 = true then (laws_eqTermS.l0 k x0 x1 (wrap64 (x5 + 1))) else (some false))) else (none)) else (none)) else (some true)
def laws_eqTermS.f : Nat → List (S36) → List (S36) → Option (Bool)
 | 0, _, _ => none
 | k + 1, l0, l1 => if (l0.length : Int) = (l1.length : Int) then (laws_eqTermS.l0 k l0 l1 0) else (some false)
end
abbrev laws_eqTerm.T (k : Nat) : Prop := ∀ (a0_0 : Int) (a0_1 : ByteArray) (a0_2 : Int) (a0_3 : Int) (A0_4 : Option Addr) (c0_4 : Nat) (l0_4 : List ByteArray) (A0_5 : Option Addr) (c0_5 : Nat) (l0_5 : List (S33)) (A0_6 : Option Addr) (c0_6 : Nat) (l0_6 : List ByteArray) (A0_7 : Option Addr) (c0_7 : Nat) (l0_7 : List (S36)) (a1_0 : Int) (a1_1 : ByteArray) (a1_2 : Int) (a1_3 : Int) (A1_4 : Option Addr) (c1_4 : Nat) (l1_4 : List ByteArray) (A1_5 : Option Addr) (c1_5 : Nat) (l1_5 : List (S33)) (A1_6 : Option Addr) (c1_6 : Nat) (l1_6 : List ByteArray) (A1_7 : Option Addr) (c1_7 : Nat) (l1_7 : List (S36)) (r : Bool) (w : World) (hr0_4 : Kd.C Kd.string w A0_4 l0_4.length l0_4) (hc0_4 : l0_4.length ≤ c0_4) (hr0_5 : Kd.C k33 w A0_5 l0_5.length l0_5) (hc0_5 : l0_5.length ≤ c0_5) (hr0_6 : Kd.C Kd.string w A0_6 l0_6.length l0_6) (hc0_6 : l0_6.length ≤ c0_6) (hr0_7 : Kd.C k36 w A0_7 l0_7.length l0_7) (hc0_7 : l0_7.length ≤ c0_7) (hr1_4 : Kd.C Kd.string w A1_4 l1_4.length l1_4) (hc1_4 : l1_4.length ≤ c1_4) (hr1_5 : Kd.C k33 w A1_5 l1_5.length l1_5) (hc1_5 : l1_5.length ≤ c1_5) (hr1_6 : Kd.C Kd.string w A1_6 l1_6.length l1_6) (hc1_6 : l1_6.length ≤ c1_6) (hr1_7 : Kd.C k36 w A1_7 l1_7.length l1_7) (hc1_7 : l1_7.length ≤ c1_7) (h : laws_eqTerm.f k a0_0 a0_1 a0_2 a0_3 l0_4 l0_5 l0_6 l0_7 a1_0 a1_1 a1_2 a1_3 l1_4 l1_5 l1_6 l1_7 = some r),
  Calls Tryd.prog 8 #[.agg #[.int .i64 a0_0, .string a0_1, .int .i64 a0_2, .int .i64 a0_3, .slice A0_4 l0_4.length c0_4, .slice A0_5 l0_5.length c0_5, .slice A0_6 l0_6.length c0_6, .slice A0_7 l0_7.length c0_7], .agg #[.int .i64 a1_0, .string a1_1, .int .i64 a1_2, .int .i64 a1_3, .slice A1_4 l1_4.length c1_4, .slice A1_5 l1_5.length c1_5, .slice A1_6 l1_6.length c1_6, .slice A1_7 l1_7.length c1_7]] w fun e w' => e = .returned (.bool r) ∧ Below w.heap.size w w'
abbrev laws_eqTermS.T (k : Nat) : Prop := ∀ (A0 : Option Addr) (c0 : Nat) (l0 : List (S36)) (A1 : Option Addr) (c1 : Nat) (l1 : List (S36)) (r : Bool) (w : World) (hr0 : Kd.C k36 w A0 l0.length l0) (hc0 : l0.length ≤ c0) (hr1 : Kd.C k36 w A1 l1.length l1) (hc1 : l1.length ≤ c1) (h : laws_eqTermS.f k l0 l1 = some r),
  Calls Tryd.prog 21 #[.slice A0 l0.length c0, .slice A1 l1.length c1] w fun e w' => e = .returned (.bool r) ∧ Below w.heap.size w w'
/-! ### laws_eqTerm: function 8 -/
theorem laws_eqTerm.step (k : Nat) (ih : ∀ m, m < k → laws_eqTerm.T m) (ih_21 : ∀ m, m < k → laws_eqTermS.T m) : laws_eqTerm.T k := by
 intro a0_0 a0_1 a0_2 a0_3 A0_4 c0_4 l0_4 A0_5 c0_5 l0_5 A0_6 c0_6 l0_6 A0_7 c0_7 l0_7 a1_0 a1_1 a1_2 a1_3 A1_4 c1_4 l1_4 A1_5 c1_5 l1_5 A1_6 c1_6 l1_6 A1_7 c1_7 l1_7 r w hr0_4 hc0_4 hr0_5 hc0_5 hr0_6 hc0_6 hr0_7 hc0_7 hr1_4 hc1_4 hr1_5 hc1_5 hr1_6 hc1_6 hr1_7 hc1_7 h
 cases k with
 | zero => exact absurd h (by simp [laws_eqTerm.f])
 | succ k =>
 simp only [laws_eqTerm.f] at h
 have hu36 := Tryd.underlying36
 have hu33 := Tryd.underlying33
 have HR0_4 := am hr0_4
 have HC0_4 := am hc0_4
 clear hr0_4 hc0_4
 have HR0_5 := am hr0_5
 have HC0_5 := am hc0_5
 clear hr0_5 hc0_5
 have HR0_6 := am hr0_6
 have HC0_6 := am hc0_6
 clear hr0_6 hc0_6
 have HR0_7 := am hr0_7
 have HC0_7 := am hc0_7
 clear hr0_7 hc0_7
 have HR1_4 := am hr1_4
 have HC1_4 := am hc1_4
 clear hr1_4 hc1_4
 have HR1_5 := am hr1_5
 have HC1_5 := am hc1_5
 clear hr1_5 hc1_5
 have HR1_6 := am hr1_6
 have HC1_6 := am hc1_6
 clear hr1_6 hc1_6
 have HR1_7 := am hr1_7
 have HC1_7 := am hc1_7
 clear hr1_7 hc1_7
 have HB := am (Below.refl w.heap.size w)
 have H : (if a0_0 = a1_0 then (if a0_1.toList = a1_1.toList then (if a0_2 = a1_2 then ((laws_eqType.f k a0_3 l0_4 l0_5 a1_3 l1_4 l1_5).bind fun t398 => (if t398 = true then ((laws_eqStringS.f k l0_6 l1_6).bind fun t399 => (if t399 = true then ((laws_eqTermS.f k l0_7 l1_7).bind fun t400 => (if t400 = true then (some true) else (some false))) else (some false))) else (some false))) else (some false)) else (some false)) else (some false)) = some r := h
 clear h
 have HC3 := am H
 clear H
 go_enter Tryd.func8, Tryd.ntmps8
 go_upto_if 9 with (first | ((with_reducible refine gate_dst (N := 2) rfl ?_); refine box_event ?hg (N := 2) ?hd (cs := #[.int .i64 a0_0, .string a0_1, .int .i64 a0_2, .int .i64 a0_3, .slice A0_4 l0_4.length c0_4, .slice A0_5 l0_5.length c0_5, .slice A0_6 l0_6.length c0_6, .slice A0_7 l0_7.length c0_7]) (t := 36) ?hr ?_; (case hd => rfl); (case hg => rfl); (case hr => exact hrw); intro gb396 hg w4 hbox hb; have n0_ := am (below_step blw hb); have n1_ := am (hbox); have n2_ := am ((by rw [hg]; exact (below_size blw) : w.heap.size ≤ gb396)); have n3_ := n2_; clear HB; revert n0_ n1_ n2_ n3_; intro HB BK396 GW396 GE396; clear hb hbox hg) | ((with_reducible refine gate_dst (N := 3) rfl ?_); refine box_event ?hg (N := 3) ?hd (cs := #[.int .i64 a1_0, .string a1_1, .int .i64 a1_2, .int .i64 a1_3, .slice A1_4 l1_4.length c1_4, .slice A1_5 l1_5.length c1_5, .slice A1_6 l1_6.length c1_6, .slice A1_7 l1_7.length c1_7]) (t := 36) ?hr ?_; (case hd => rfl); (case hg => rfl); (case hr => exact hrw); intro gb397 hg w5 hbox hb; have n0_ := am (blk_below (g := gb396) bkw hb); have n1_ := am (below_step blw hb); have n2_ := am (hbox); have n3_ := am ((by rw [hg]; exact (below_size blw) : w.heap.size ≤ gb397)); have n4_ := n3_; have n5_ := am ((by rw [hg]; exact Nat.ne_of_lt (blk_lt (g := gb396) bkw) : gb396 ≠ gb397)); have n6_ := am ((by rw [hg]; exact Nat.ne_of_gt (blk_lt (g := gb396) bkw) : gb397 ≠ gb396)); clear BK396; clear HB; revert n0_ n1_ n2_ n3_ n4_ n5_ n6_; intro BK396 HB BK397 GW397 GE397 NB396_397 NB397_396; clear hb hbox hg; have hnb6 := NB396_397.out; have hnc6 := NB397_396.out; obtain ⟨hcz7_0, hcz7_1, hcz7_2, hcz7_3, hcz7_4, hcz7_5, hcz7_6, hcz7_7⟩ := cls8 BK396.out; obtain ⟨hfz7_0, hfz7_1, hfz7_2, hfz7_3, hfz7_4, hfz7_5, hfz7_6, hfz7_7⟩ := frz8 BK396.out; obtain ⟨hcz8_0, hcz8_1, hcz8_2, hcz8_3, hcz8_4, hcz8_5, hcz8_6, hcz8_7⟩ := cls8 BK397.out; obtain ⟨hfz8_0, hfz8_1, hfz8_2, hfz8_3, hfz8_4, hfz8_5, hfz8_6, hfz8_7⟩ := frz8 BK397.out))
 (try clear hcz7_0 hcz7_1 hcz7_2 hcz7_3 hcz7_4 hcz7_5 hcz7_6 hcz7_7); (try clear hcz8_0 hcz8_1 hcz8_2 hcz8_3 hcz8_4 hcz8_5 hcz8_6 hcz8_7); (try clear hfz7_0 hfz7_1 hfz7_2 hfz7_3 hfz7_4 hfz7_5 hfz7_6 hfz7_7); (try clear hfz8_0 hfz8_1 hfz8_2 hfz8_3 hfz8_4 hfz8_5 hfz8_6 hfz8_7)
 have H := HC3.out
 clear HC3
 by_cases c9 : a0_0 = a1_0
 case neg =>
  rw [if_neg c9] at H
  have c9b0 : (a0_0 == a1_0) = false := beq_eq_false_iff_ne.mpr c9
  have c9b1 : (a0_0 != a1_0) = true := bne_iff_ne.mpr c9
  (first | rw [c9b0] | (simp only [i64_w, i32_w]; rw [c9b0]) | (rw [c9b1]; (try simp only [Bool.not_true, Bool.not_false])) | skip)
  obtain rfl := Option.some.inj H
  go_wp2
  go_ret
  exact ⟨rfw, blw⟩
 rw [if_pos c9] at H
 have c9b0 : (a0_0 == a1_0) = true := beq_iff_eq.mpr c9
 have c9b1 : (a0_0 != a1_0) = false := bne_eq_false_iff_eq.mpr c9
 clear c9
 (first | rw [c9b0] | (simp only [i64_w, i32_w]; rw [c9b0]) | (rw [c9b1]; (try simp only [Bool.not_true, Bool.not_false])) | skip)
 by_cases c10 : a0_1.toList = a1_1.toList
 case neg =>
  rw [if_neg c10] at H
  have c10b0 : (a0_1.toList == a1_1.toList) = false := beq_eq_false_iff_ne.mpr c10
  have c10b1 : (a0_1.toList != a1_1.toList) = true := bne_iff_ne.mpr c10
  obtain rfl := Option.some.inj H
  have hnb36 := NB396_397.out
  have hnc36 := NB397_396.out
  obtain ⟨hcz37_0, hcz37_1, hcz37_2, hcz37_3, hcz37_4, hcz37_5, hcz37_6, hcz37_7⟩ := cls8 BK396.out
  obtain ⟨hfz37_0, hfz37_1, hfz37_2, hfz37_3, hfz37_4, hfz37_5, hfz37_6, hfz37_7⟩ := frz8 BK396.out
  obtain ⟨hcz38_0, hcz38_1, hcz38_2, hcz38_3, hcz38_4, hcz38_5, hcz38_6, hcz38_7⟩ := cls8 BK397.out
  obtain ⟨hfz38_0, hfz38_1, hfz38_2, hfz38_3, hfz38_4, hfz38_5, hfz38_6, hfz38_7⟩ := frz8 BK397.out
  go_wp2
  go_ret
  exact ⟨rfw, blw⟩
 rw [if_pos c10] at H
 have c10b0 : (a0_1.toList == a1_1.toList) = true := beq_iff_eq.mpr c10
 have c10b1 : (a0_1.toList != a1_1.toList) = false := bne_eq_false_iff_eq.mpr c10
 clear c10
 have HC11 := am H
 clear H
 have hnb12 := NB396_397.out
 have hnc12 := NB397_396.out
 obtain ⟨hcz13_0, hcz13_1, hcz13_2, hcz13_3, hcz13_4, hcz13_5, hcz13_6, hcz13_7⟩ := cls8 BK396.out
 obtain ⟨hfz13_0, hfz13_1, hfz13_2, hfz13_3, hfz13_4, hfz13_5, hfz13_6, hfz13_7⟩ := frz8 BK396.out
 obtain ⟨hcz14_0, hcz14_1, hcz14_2, hcz14_3, hcz14_4, hcz14_5, hcz14_6, hcz14_7⟩ := cls8 BK397.out
 obtain ⟨hfz14_0, hfz14_1, hfz14_2, hfz14_3, hfz14_4, hfz14_5, hfz14_6, hfz14_7⟩ := frz8 BK397.out
 go_upto_if 19 with (fail)
 have H := HC11.out
 clear HC11
 by_cases c15 : a0_2 = a1_2
 case neg =>
  rw [if_neg c15] at H
  have c15b0 : (a0_2 == a1_2) = false := beq_eq_false_iff_ne.mpr c15
  have c15b1 : (a0_2 != a1_2) = true := bne_iff_ne.mpr c15
  (first | rw [c15b0] | (simp only [i64_w, i32_w]; rw [c15b0]) | (rw [c15b1]; (try simp only [Bool.not_true, Bool.not_false])) | skip)
  obtain rfl := Option.some.inj H
  go_wp2
  go_ret
  exact ⟨rfw, blw⟩
 rw [if_pos c15] at H
 have c15b0 : (a0_2 == a1_2) = true := beq_iff_eq.mpr c15
 have c15b1 : (a0_2 != a1_2) = false := bne_eq_false_iff_eq.mpr c15
 clear c15
 (first | rw [c15b0] | (simp only [i64_w, i32_w]; rw [c15b0]) | (rw [c15b1]; (try simp only [Bool.not_true, Bool.not_false])) | skip)
 replace H := Option.bind_eq_some_iff.mp H
 obtain ⟨t398, A160, H⟩ := H
 replace H : (if t398 = true then ((laws_eqStringS.f k l0_6 l1_6).bind fun t399 => (if t399 = true then ((laws_eqTermS.f k l0_7 l1_7).bind fun t400 => (if t400 = true then (some true) else (some false))) else (some false))) else (some false)) = some r := H
 have A16 := am A160
 clear A160
 have HC17 := am H
 clear H
 have hnb18 := NB396_397.out
 have hnc18 := NB397_396.out
 obtain ⟨hcz19_0, hcz19_1, hcz19_2, hcz19_3, hcz19_4, hcz19_5, hcz19_6, hcz19_7⟩ := cls8 BK396.out
 obtain ⟨hfz19_0, hfz19_1, hfz19_2, hfz19_3, hfz19_4, hfz19_5, hfz19_6, hfz19_7⟩ := frz8 BK396.out
 obtain ⟨hcz20_0, hcz20_1, hcz20_2, hcz20_3, hcz20_4, hcz20_5, hcz20_6, hcz20_7⟩ := cls8 BK397.out
 obtain ⟨hfz20_0, hfz20_1, hfz20_2, hfz20_3, hfz20_4, hfz20_5, hfz20_6, hfz20_7⟩ := frz8 BK397.out
 go_upto_if 25 with (first | ((with_reducible refine gate_callee (f := 19) rfl ?_); refine goesL_ (some 24) rfl rfl Tryd.func19 kr rfl #[.agg #[.int .i64 a0_3, .slice A0_4 l0_4.length c0_4, .slice A0_5 l0_5.length c0_5], .agg #[.int .i64 a1_3, .slice A1_4 l1_4.length c1_4, .slice A1_5 l1_5.length c1_5]] rfl mpw ?_; (with_reducible refine (laws_eqType.calls k a0_3 _ _ l0_4 _ _ l0_5 a1_3 _ _ l1_4 _ _ l1_5 t398 _ ?side1 ?side2 ?side3 ?side4 ?side5 ?side6 ?side7 ?side8 A16.out).mono ?_); (case side1 => have X_ := HR0_4; exact cbl); (case side2 => exact HC0_4.out); (case side3 => have X_ := HR0_5; exact cbl); (case side4 => exact HC0_5.out); (case side5 => have X_ := HR1_4; exact cbl); (case side6 => exact HC1_4.out); (case side7 => have X_ := HR1_5; exact cbl); (case side8 => exact HC1_5.out); rintro e w21 ⟨rfl, hb⟩; refine ⟨_, rfl, ?_⟩; have n0_ := am (blk_below (g := gb396) bkw hb); have n1_ := am (blk_below (g := gb397) bkw hb); have n2_ := am (below_step blw hb); clear BK396; clear BK397; clear HB; revert n0_ n1_ n2_; intro BK396 BK397 HB; (try clear hb); (try clear hb2); (try clear hk); (try clear hi)))
 have H := HC17.out
 clear HC17
 by_cases c22 : t398 = true
 case neg =>
  replace c22 := Bool.eq_false_iff.mpr c22
  subst c22
  have H1 : (some false) = some r := by rw [if_neg (show ¬ (false = true) by decide)] at H; exact H
  clear H
  have H := H1
  clear H1
  obtain rfl := Option.some.inj H
  go_wp2
  go_ret
  exact ⟨rfw, blw⟩
 subst c22
 have H1 : ((laws_eqStringS.f k l0_6 l1_6).bind fun t399 => (if t399 = true then ((laws_eqTermS.f k l0_7 l1_7).bind fun t400 => (if t400 = true then (some true) else (some false))) else (some false))) = some r := by rw [if_pos rfl] at H; exact H
 clear H
 have H := H1
 clear H1
 replace H := Option.bind_eq_some_iff.mp H
 obtain ⟨t399, A230, H⟩ := H
 replace H : (if t399 = true then ((laws_eqTermS.f k l0_7 l1_7).bind fun t400 => (if t400 = true then (some true) else (some false))) else (some false)) = some r := H
 have A23 := am A230
 clear A230
 have HC24 := am H
 clear H
 have hnb25 := NB396_397.out
 have hnc25 := NB397_396.out
 obtain ⟨hcz26_0, hcz26_1, hcz26_2, hcz26_3, hcz26_4, hcz26_5, hcz26_6, hcz26_7⟩ := cls8 BK396.out
 obtain ⟨hfz26_0, hfz26_1, hfz26_2, hfz26_3, hfz26_4, hfz26_5, hfz26_6, hfz26_7⟩ := frz8 BK396.out
 obtain ⟨hcz27_0, hcz27_1, hcz27_2, hcz27_3, hcz27_4, hcz27_5, hcz27_6, hcz27_7⟩ := cls8 BK397.out
 obtain ⟨hfz27_0, hfz27_1, hfz27_2, hfz27_3, hfz27_4, hfz27_5, hfz27_6, hfz27_7⟩ := frz8 BK397.out
 go_upto_if 31 with (first | ((with_reducible refine gate_callee (f := 20) rfl ?_); refine goesL_ (some 30) rfl rfl Tryd.func20 kr rfl #[.slice A0_6 l0_6.length c0_6, .slice A1_6 l1_6.length c1_6] rfl mpw ?_; (with_reducible refine (laws_eqStringS.calls k _ _ l0_6 _ _ l1_6 t399 _ ?side1 ?side2 ?side3 ?side4 A23.out).mono ?_); (case side1 => have X_ := HR0_6; exact cbl); (case side2 => exact HC0_6.out); (case side3 => have X_ := HR1_6; exact cbl); (case side4 => exact HC1_6.out); rintro e w' ⟨rfl, ⟨nd, rfl⟩⟩; refine ⟨_, rfl, ?_⟩))
 have H := HC24.out
 clear HC24
 by_cases c28 : t399 = true
 case neg =>
  replace c28 := Bool.eq_false_iff.mpr c28
  subst c28
  have H1 : (some false) = some r := by rw [if_neg (show ¬ (false = true) by decide)] at H; exact H
  clear H
  have H := H1
  clear H1
  obtain rfl := Option.some.inj H
  go_wp2
  go_ret
  exact ⟨rfw, blw⟩
 subst c28
 have H1 : ((laws_eqTermS.f k l0_7 l1_7).bind fun t400 => (if t400 = true then (some true) else (some false))) = some r := by rw [if_pos rfl] at H; exact H
 clear H
 have H := H1
 clear H1
 replace H := Option.bind_eq_some_iff.mp H
 obtain ⟨t400, A290, H⟩ := H
 replace H : (if t400 = true then (some true) else (some false)) = some r := H
 have A29 := am A290
 clear A290
 have HC30 := am H
 clear H
 have hnb31 := NB396_397.out
 have hnc31 := NB397_396.out
 obtain ⟨hcz32_0, hcz32_1, hcz32_2, hcz32_3, hcz32_4, hcz32_5, hcz32_6, hcz32_7⟩ := cls8 BK396.out
 obtain ⟨hfz32_0, hfz32_1, hfz32_2, hfz32_3, hfz32_4, hfz32_5, hfz32_6, hfz32_7⟩ := frz8 BK396.out
 obtain ⟨hcz33_0, hcz33_1, hcz33_2, hcz33_3, hcz33_4, hcz33_5, hcz33_6, hcz33_7⟩ := cls8 BK397.out
 obtain ⟨hfz33_0, hfz33_1, hfz33_2, hfz33_3, hfz33_4, hfz33_5, hfz33_6, hfz33_7⟩ := frz8 BK397.out
 go_upto_if 37 with (first | ((with_reducible refine gate_callee (f := 21) rfl ?_); refine goesL_ (some 36) rfl rfl Tryd.func21 kr rfl #[.slice A0_7 l0_7.length c0_7, .slice A1_7 l1_7.length c1_7] rfl mpw ?_; (with_reducible refine (ih_21 k (by omega) _ _ l0_7 _ _ l1_7 t400 _ ?side1 ?side2 ?side3 ?side4 A29.out).mono ?_); (case side1 => have X_ := HR0_7; exact cbl); (case side2 => exact HC0_7.out); (case side3 => have X_ := HR1_7; exact cbl); (case side4 => exact HC1_7.out); rintro e w34 ⟨rfl, hb⟩; refine ⟨_, rfl, ?_⟩; have n0_ := am (blk_below (g := gb396) bkw hb); have n1_ := am (blk_below (g := gb397) bkw hb); have n2_ := am (below_step blw hb); clear BK396; clear BK397; clear HB; revert n0_ n1_ n2_; intro BK396 BK397 HB; (try clear hb); (try clear hb2); (try clear hk); (try clear hi)))
 have H := HC30.out
 clear HC30
 by_cases c35 : t400 = true
 ·subst c35
  have H1 : (some true) = some r := by rw [if_pos rfl] at H; exact H
  clear H
  have H := H1
  clear H1
  obtain rfl := Option.some.inj H
  go_wp2
  go_ret
  exact ⟨rfw, blw⟩
 replace c35 := Bool.eq_false_iff.mpr c35
 subst c35
 have H1 : (some false) = some r := by rw [if_neg (show ¬ (false = true) by decide)] at H; exact H
 clear H
 have H := H1
 clear H1
 obtain rfl := Option.some.inj H
 go_wp2
 go_ret
 exact ⟨rfw, blw⟩

/-! ### laws_eqTermS: function 21 -/
def laws_eqTermS.T6 : Bool × List (List Nat × List Nat) := (true, [([], []), ([], []), ([0, 1], [0, 1]), ([2], [2]), ([], []), ([], []), ([4, 5], [4, 5]), ([6], [6]), ([3, 7], [3, 7]), ([8], [8])])
def laws_eqTermS.B6 : List Nat := [0, 0, 3, 7, 0, 0, 48, 112, 255, 511]
theorem laws_eqTermS.tab6 : rtab .any (opsOf Tryd.f21 6) = laws_eqTermS.T6 := by kernel_rfl
theorem laws_eqTermS.bits6 : waitsOk laws_eqTermS.T6.2 laws_eqTermS.B6 = true := by kernel_rfl
theorem laws_eqTermS.step (k : Nat) (ih : ∀ m, m < k → laws_eqTermS.T m) (ih_8 : ∀ m, m < k → laws_eqTerm.T m) : laws_eqTermS.T k := by
 intro A0 c0 l0 A1 c1 l1 r w hr0 hc0 hr1 hc1 h
 cases k with
 | zero => exact absurd h (by simp [laws_eqTermS.f])
 | succ k =>
 simp only [laws_eqTermS.f] at h
 have hu36 := Tryd.underlying36
 have HR0 := am hr0
 have HC0 := am hc0
 clear hr0 hc0
 have HR1 := am hr1
 have HC1 := am hc1
 clear hr1 hc1
 have HB := am (Below.refl w.heap.size w)
 have H : (if (l0.length : Int) = (l1.length : Int) then (laws_eqTermS.l0 k l0 l1 0) else (some false)) = some r := h
 clear h
 by_cases c3 : (l0.length : Int) = (l1.length : Int)
 case neg =>
  rw [if_neg c3] at H
  have c3b0 : ((l0.length : Int) == (l1.length : Int)) = false := beq_eq_false_iff_ne.mpr c3
  have c3b1 : ((l0.length : Int) != (l1.length : Int)) = true := bne_iff_ne.mpr c3
  have c3b2 : (l0.length == l1.length) = false := by first | simpa using c3 | (simp at c3 ⊢; omega)
  obtain rfl := Option.some.inj H
  go_enter Tryd.func21, Tryd.ntmps21
  go_wp2
  go_ret
  exact ⟨rfw, blw⟩
 rw [if_pos c3] at H
 have c3b0 : ((l0.length : Int) == (l1.length : Int)) = true := beq_iff_eq.mpr c3
 have c3b1 : ((l0.length : Int) != (l1.length : Int)) = false := bne_eq_false_iff_eq.mpr c3
 have c3b2 : (l0.length == l1.length) = true := by first | simpa using c3 | (simp at c3 ⊢; omega)
 clear c3
 have H' := am H
 clear H
 go_enter Tryd.func21, Tryd.ntmps21
 go_wp2
 go_loopg [5] k (fun kq v5 w' => ∃ (x5_1 : Int), v5 = .int .i64 x5_1 ∧ Aside0 (laws_eqTermS.l0 kq l0 l1 x5_1 = some r) ∧ Aside0 (kq ≤ k) ∧ Aside0 (Below w.heap.size w w'))
 case atStart => exact ⟨(0), rfs, H', ⟨Nat.le_refl _⟩, ⟨blw⟩⟩
 case round =>
  clear H'
  (try clear c1); (try clear c2); (try clear p2); (try clear c3); (try clear c3b0); (try clear c3b1); (try clear c3b2)
  obtain ⟨x5_1, rfl, HA, HK1, HB⟩ := hrel
  cases gk with
  | zero => exact absurd HA.out (by simp [laws_eqTermS.l0])
  | succ k1 =>
   have H := HA.out
   clear HA
   simp only [laws_eqTermS.l0] at H
   by_cases c4 : x5_1 < (l0.length : Int)
   case neg =>
    rw [if_neg c4] at H
    have c4b0 : decide (x5_1 < (l0.length : Int)) = false := decide_eq_false c4
    clear c4
    obtain rfl := Option.some.inj H
    go_wp2
    go_ret
    exact ⟨rfw, blw⟩
   rw [if_pos c4] at H
   have c4b0 : decide (x5_1 < (l0.length : Int)) = true := decide_eq_true c4
   clear c4
   by_cases c5 : 0 ≤ x5_1
   case neg =>
    rw [if_neg c5] at H
    exact absurd H (by simp)
   rw [if_pos c5] at H
   have c5b0 : decide (0 ≤ x5_1) = true := decide_eq_true c5
   clear c5
   by_cases c6 : x5_1 < (l1.length : Int)
   case neg =>
    rw [if_neg c6] at H
    exact absurd H (by simp)
   rw [if_pos c6] at H
   have c6b0 : decide (x5_1 < (l1.length : Int)) = true := decide_eq_true c6
   clear c6
   replace H := Option.bind_eq_some_iff.mp H
   obtain ⟨t403, A70, H⟩ := H
   replace H : (if t403 = true then (laws_eqTermS.l0 k1 l0 l1 (wrap64 (x5_1 + 1))) else (some false)) = some r := H
   have A7 := am A70
   clear A70
   have HC8 := am H
   clear H
   try go_wp2
   have n0_ := am (below_drew1 HB.out)
   clear HB
   revert n0_
   intro HB
   have p401 : 0 ≤ (x5_1 : Int) := of_decide_eq_true asw
   have q401 : x5_1 < (l0.length : Int) := of_decide_eq_true asw
   obtain ⟨ad401, A401_4, c401_4, A401_5, c401_5, A401_6, c401_6, A401_7, c401_7, e401, hx401_0, hx401_1, hx401_2, hx401_3, hx401_4, hx401_5, hx401_6, hx401_7, hl401_4, hi401_4, hl401_5, hi401_5, hl401_6, hi401_6, hl401_7, hi401_7⟩ := at_T36 HR0.out x5_1 p401 q401
   have hw401_7 := hx401_7
   have hw401_6 := hx401_6
   have hw401_5 := hx401_5
   have hw401_4 := hx401_4
   have hw401_3 := hx401_3
   have hw401_2 := hx401_2
   have hw401_1 := hx401_1
   have hw401_0 := hx401_0
   cases e401
   replace hx401_0 := upw HB.out hx401_0
   replace hx401_1 := upw HB.out hx401_1
   replace hx401_2 := upw HB.out hx401_2
   replace hx401_3 := upw HB.out hx401_3
   replace hx401_4 := upw HB.out hx401_4
   replace hx401_5 := upw HB.out hx401_5
   replace hx401_6 := upw HB.out hx401_6
   replace hx401_7 := upw HB.out hx401_7
   have HR401_4 := am hi401_4
   have HC401_4 := am hl401_4
   clear hi401_4 hl401_4
   have HR401_5 := am hi401_5
   have HC401_5 := am hl401_5
   clear hi401_5 hl401_5
   have HR401_6 := am hi401_6
   have HC401_6 := am hl401_6
   clear hi401_6 hl401_6
   have HR401_7 := am hi401_7
   have HC401_7 := am hl401_7
   clear hi401_7 hl401_7
   replace p401 := eq_true p401
   replace q401 := eq_true q401
   have p402 : 0 ≤ (x5_1 : Int) := of_decide_eq_true asw
   have q402 : x5_1 < (l1.length : Int) := of_decide_eq_true asw
   obtain ⟨ad402, A402_4, c402_4, A402_5, c402_5, A402_6, c402_6, A402_7, c402_7, e402, hx402_0, hx402_1, hx402_2, hx402_3, hx402_4, hx402_5, hx402_6, hx402_7, hl402_4, hi402_4, hl402_5, hi402_5, hl402_6, hi402_6, hl402_7, hi402_7⟩ := at_T36 HR1.out x5_1 p402 q402
   have hw402_7 := hx402_7
   have hw402_6 := hx402_6
   have hw402_5 := hx402_5
   have hw402_4 := hx402_4
   have hw402_3 := hx402_3
   have hw402_2 := hx402_2
   have hw402_1 := hx402_1
   have hw402_0 := hx402_0
   cases e402
   replace hx402_0 := upw HB.out hx402_0
   replace hx402_1 := upw HB.out hx402_1
   replace hx402_2 := upw HB.out hx402_2
   replace hx402_3 := upw HB.out hx402_3
   replace hx402_4 := upw HB.out hx402_4
   replace hx402_5 := upw HB.out hx402_5
   replace hx402_6 := upw HB.out hx402_6
   replace hx402_7 := upw HB.out hx402_7
   have HR402_4 := am hi402_4
   have HC402_4 := am hl402_4
   clear hi402_4 hl402_4
   have HR402_5 := am hi402_5
   have HC402_5 := am hl402_5
   clear hi402_5 hl402_5
   have HR402_6 := am hi402_6
   have HC402_6 := am hl402_6
   clear hi402_6 hl402_6
   have HR402_7 := am hi402_7
   have HC402_7 := am hl402_7
   clear hi402_7 hl402_7
   replace p402 := eq_true p402
   replace q402 := eq_true q402
   refine start_ (n := 10) (S := fun w' => w'.cell? (ad401.add ((x5_1).toNat * 8)) = some (.int .i64 ((rd_T36 l0 x5_1).f0)) ∧ w'.cell? ⟨(ad401.add ((x5_1).toNat * 8)).block, (ad401.add ((x5_1).toNat * 8)).off + 1, none⟩ = some (.string ((rd_T36 l0 x5_1).f1)) ∧ w'.cell? ⟨(ad401.add ((x5_1).toNat * 8)).block, (ad401.add ((x5_1).toNat * 8)).off + 2, none⟩ = some (.int .i64 ((rd_T36 l0 x5_1).f2)) ∧ w'.cell? ⟨(ad401.add ((x5_1).toNat * 8)).block, (ad401.add ((x5_1).toNat * 8)).off + 3, none⟩ = some (.int .i64 ((rd_T36 l0 x5_1).f3.f0)) ∧ w'.cell? ⟨(ad401.add ((x5_1).toNat * 8)).block, (ad401.add ((x5_1).toNat * 8)).off + 4, none⟩ = some (.slice A401_4 ((rd_T36 l0 x5_1).f3.f1).length c401_4) ∧ w'.cell? ⟨(ad401.add ((x5_1).toNat * 8)).block, (ad401.add ((x5_1).toNat * 8)).off + 5, none⟩ = some (.slice A401_5 ((rd_T36 l0 x5_1).f3.f2).length c401_5) ∧ w'.cell? ⟨(ad401.add ((x5_1).toNat * 8)).block, (ad401.add ((x5_1).toNat * 8)).off + 6, none⟩ = some (.slice A401_6 ((rd_T36 l0 x5_1).f4).length c401_6) ∧ w'.cell? ⟨(ad401.add ((x5_1).toNat * 8)).block, (ad401.add ((x5_1).toNat * 8)).off + 7, none⟩ = some (.slice A401_7 ((rd_T36 l0 x5_1).f5).length c401_7) ∧ w'.cell? (ad402.add ((x5_1).toNat * 8)) = some (.int .i64 ((rd_T36 l1 x5_1).f0)) ∧ w'.cell? ⟨(ad402.add ((x5_1).toNat * 8)).block, (ad402.add ((x5_1).toNat * 8)).off + 1, none⟩ = some (.string ((rd_T36 l1 x5_1).f1)) ∧ w'.cell? ⟨(ad402.add ((x5_1).toNat * 8)).block, (ad402.add ((x5_1).toNat * 8)).off + 2, none⟩ = some (.int .i64 ((rd_T36 l1 x5_1).f2)) ∧ w'.cell? ⟨(ad402.add ((x5_1).toNat * 8)).block, (ad402.add ((x5_1).toNat * 8)).off + 3, none⟩ = some (.int .i64 ((rd_T36 l1 x5_1).f3.f0)) ∧ w'.cell? ⟨(ad402.add ((x5_1).toNat * 8)).block, (ad402.add ((x5_1).toNat * 8)).off + 4, none⟩ = some (.slice A402_4 ((rd_T36 l1 x5_1).f3.f1).length c402_4) ∧ w'.cell? ⟨(ad402.add ((x5_1).toNat * 8)).block, (ad402.add ((x5_1).toNat * 8)).off + 5, none⟩ = some (.slice A402_5 ((rd_T36 l1 x5_1).f3.f2).length c402_5) ∧ w'.cell? ⟨(ad402.add ((x5_1).toNat * 8)).block, (ad402.add ((x5_1).toNat * 8)).off + 6, none⟩ = some (.slice A402_6 ((rd_T36 l1 x5_1).f4).length c402_6) ∧ w'.cell? ⟨(ad402.add ((x5_1).toNat * 8)).block, (ad402.add ((x5_1).toNat * 8)).off + 7, none⟩ = some (.slice A402_7 ((rd_T36 l1 x5_1).f5).length c402_7)) (ds := []) #[false,false,false,false,false,false,false,false,false,false] kr rfl rfl ⟨((upw HB.out hw401_0 : _)), ((upw HB.out hw401_1 : _)), ((upw HB.out hw401_2 : _)), ((upw HB.out hw401_3 : _)), ((upw HB.out hw401_4 : _)), ((upw HB.out hw401_5 : _)), ((upw HB.out hw401_6 : _)), ((upw HB.out hw401_7 : _)), ((upw HB.out hw402_0 : _)), ((upw HB.out hw402_1 : _)), ((upw HB.out hw402_2 : _)), ((upw HB.out hw402_3 : _)), ((upw HB.out hw402_4 : _)), ((upw HB.out hw402_5 : _)), ((upw HB.out hw402_6 : _)), ((upw HB.out hw402_7 : _))⟩ (fun hHeld => ?_); refine with_tabW laws_eqTermS.tab6 laws_eqTermS.bits6 (fun HT_ HW_ => ?_)
   generalize wr.drew = w9 at HB HR401_4 HR401_5 HR401_6 HR401_7 HR402_4 HR402_5 HR402_6 HR402_7 hx401_0 hx401_1 hx401_2 hx401_3 hx401_4 hx401_5 hx401_6 hx401_7 hx402_0 hx402_1 hx402_2 hx402_3 hx402_4 hx402_5 hx402_6 hx402_7 hHeld ⊢
   refine pure_ (i := 0) (N := some 17) (v := ?_) (a' := ?_) (bm 10 1) rfl rfl (any_of HT_.out kr) qi (Or.inl ⟨by rfl, ?_⟩) ?_ ?_
   rotate_left
   ·intro w'
    go_simp
    with_reducible rfl
   rotate_left
   ·simp only [sx]
    rfl
   refine pure_ (i := 1) (N := some 18) (v := ?_) (a' := ?_) (bm 10 3) rfl rfl (any_of HT_.out kr) qi (Or.inl ⟨by rfl, ?_⟩) ?_ ?_
   rotate_left
   ·intro w'
    go_simp
    with_reducible rfl
   rotate_left
   ·simp only [sx]
    rfl
   refine pure_ (i := 2) (N := some 19) (v := ?_) (a' := ?_) (bm 10 7) rfl rfl (any_of HT_.out kr) qi (Or.inl ⟨by rfl, ?_⟩) ?_ ?_
   rotate_left
   ·intro w'
    go_simp
    with_reducible rfl
   rotate_left
   ·simp only [sx]
    rfl
   refine pure_ (i := 4) (N := some 21) (v := ?_) (a' := ?_) (bm 10 23) rfl rfl (any_of HT_.out kr) qi (Or.inl ⟨by rfl, ?_⟩) ?_ ?_
   rotate_left
   ·intro w'
    go_simp
    with_reducible rfl
   rotate_left
   ·simp only [sx]
    rfl
   refine pure_ (i := 5) (N := some 22) (v := ?_) (a' := ?_) (bm 10 55) rfl rfl (any_of HT_.out kr) qi (Or.inl ⟨by rfl, ?_⟩) ?_ ?_
   rotate_left
   ·intro w'
    go_simp
    with_reducible rfl
   rotate_left
   ·simp only [sx]
    rfl
   refine pure_ (i := 6) (N := some 23) (v := ?_) (a' := ?_) (bm 10 119) rfl rfl (any_of HT_.out kr) qi (Or.inl ⟨by rfl, ?_⟩) ?_ ?_
   rotate_left
   ·intro w'
    go_simp
    with_reducible rfl
   rotate_left
   ·simp only [sx]
    rfl
   refine take_ (i := 3) (N := some 20) (v := ?_) (a' := ?_) (bm 10 127) rfl rfl (take_ofW HT_.out HW_.out kr) qi (Or.inl ⟨by rfl, ?_⟩) hHeld ?_ ?_
   rotate_left
   ·rintro w' ⟨s0, s1, s2, s3, s4, s5, s6, s7, s8, s9, s10, s11, s12, s13, s14, s15⟩
    go_simp
    with_reducible rfl
   rotate_left
   ·simp only [sx]
    rfl
   refine take_ (i := 7) (N := some 24) (v := ?_) (a' := ?_) (bm 10 255) rfl rfl (take_ofW HT_.out HW_.out kr) qi (Or.inl ⟨by rfl, ?_⟩) hHeld ?_ ?_
   rotate_left
   ·rintro w' ⟨s0, s1, s2, s3, s4, s5, s6, s7, s8, s9, s10, s11, s12, s13, s14, s15⟩
    go_simp
    with_reducible rfl
   rotate_left
   ·simp only [sx]
    rfl
   refine one_ (i := 8) (N := some 25) (bm 10 511) rfl rfl (one_of HT_.out kr) (by decide) (fun K hK => ?_)
   refine goes_ Tryd.func8 kr rfl #[.agg #[.int .i64 ((rd_T36 l0 x5_1).f0), .string ((rd_T36 l0 x5_1).f1), .int .i64 ((rd_T36 l0 x5_1).f2), .int .i64 ((rd_T36 l0 x5_1).f3.f0), .slice A401_4 ((rd_T36 l0 x5_1).f3.f1).length c401_4, .slice A401_5 ((rd_T36 l0 x5_1).f3.f2).length c401_5, .slice A401_6 ((rd_T36 l0 x5_1).f4).length c401_6, .slice A401_7 ((rd_T36 l0 x5_1).f5).length c401_7], .agg #[.int .i64 ((rd_T36 l1 x5_1).f0), .string ((rd_T36 l1 x5_1).f1), .int .i64 ((rd_T36 l1 x5_1).f2), .int .i64 ((rd_T36 l1 x5_1).f3.f0), .slice A402_4 ((rd_T36 l1 x5_1).f3.f1).length c402_4, .slice A402_5 ((rd_T36 l1 x5_1).f3.f2).length c402_5, .slice A402_6 ((rd_T36 l1 x5_1).f4).length c402_6, .slice A402_7 ((rd_T36 l1 x5_1).f5).length c402_7]] (by rfl) rfl rfl mpw ?_
   with_reducible refine (ih_8 k1 (by have := HK1.out; omega) ((rd_T36 l0 x5_1).f0) ((rd_T36 l0 x5_1).f1) ((rd_T36 l0 x5_1).f2) ((rd_T36 l0 x5_1).f3.f0) _ _ ((rd_T36 l0 x5_1).f3.f1) _ _ ((rd_T36 l0 x5_1).f3.f2) _ _ ((rd_T36 l0 x5_1).f4) _ _ ((rd_T36 l0 x5_1).f5) ((rd_T36 l1 x5_1).f0) ((rd_T36 l1 x5_1).f1) ((rd_T36 l1 x5_1).f2) ((rd_T36 l1 x5_1).f3.f0) _ _ ((rd_T36 l1 x5_1).f3.f1) _ _ ((rd_T36 l1 x5_1).f3.f2) _ _ ((rd_T36 l1 x5_1).f4) _ _ ((rd_T36 l1 x5_1).f5) t403 _ ?side1 ?side2 ?side3 ?side4 ?side5 ?side6 ?side7 ?side8 ?side9 ?side10 ?side11 ?side12 ?side13 ?side14 ?side15 ?side16 A7.out).mono ?_
   (case side1 => have X_ := HR401_4; exact cbl)
   (case side2 => exact HC401_4.out)
   (case side3 => have X_ := HR401_5; exact cbl)
   (case side4 => exact HC401_5.out)
   (case side5 => have X_ := HR401_6; exact cbl)
   (case side6 => exact HC401_6.out)
   (case side7 => have X_ := HR401_7; exact cbl)
   (case side8 => exact HC401_7.out)
   (case side9 => have X_ := HR402_4; exact cbl)
   (case side10 => exact HC402_4.out)
   (case side11 => have X_ := HR402_5; exact cbl)
   (case side12 => exact HC402_5.out)
   (case side13 => have X_ := HR402_6; exact cbl)
   (case side14 => exact HC402_6.out)
   (case side15 => have X_ := HR402_7; exact cbl)
   (case side16 => exact HC402_7.out)
   rintro e w10 ⟨rfl, hb⟩
   refine ⟨_, rfl, ?_⟩
   have n0_ := am (below_step blw hb)
   clear HB
   revert n0_
   intro HB
   (try clear hb)
   (try clear hb2)
   (try clear hk)
   (try clear hi)
   refine hK.out _ _ ⟨((upw HB.out hw401_0 : _)), ((upw HB.out hw401_1 : _)), ((upw HB.out hw401_2 : _)), ((upw HB.out hw401_3 : _)), ((upw HB.out hw401_4 : _)), ((upw HB.out hw401_5 : _)), ((upw HB.out hw401_6 : _)), ((upw HB.out hw401_7 : _)), ((upw HB.out hw402_0 : _)), ((upw HB.out hw402_1 : _)), ((upw HB.out hw402_2 : _)), ((upw HB.out hw402_3 : _)), ((upw HB.out hw402_4 : _)), ((upw HB.out hw402_5 : _)), ((upw HB.out hw402_6 : _)), ((upw HB.out hw402_7 : _))⟩ (fun hHeld => ?_)
   clear hK K
   refine norm_ (a' := ?_) ?_ ?_
   rotate_left
   ·show Act.put _ (some 25) _ = _
    simp only [sx]
    rfl
   refine pure_ (i := 9) (N := some 26) (v := ?_) (a' := ?_) (bm 10 1023) rfl rfl (any_of HT_.out kr) qi (Or.inl ⟨by rfl, ?_⟩) ?_ ?_
   rotate_left
   ·intro w'
    go_simp
    with_reducible rfl
   rotate_left
   ·simp only [sx]
    rfl
   refine done_ (done_of HT_.out kr) ?_
   go_upto_if 26 with (fail)
   have H := HC8.out
   clear HC8
   by_cases c11 : t403 = true
   case neg =>
    replace c11 := Bool.eq_false_iff.mpr c11
    subst c11
    have H1 : (some false) = some r := by rw [if_neg (show ¬ (false = true) by decide)] at H; exact H
    clear H
    have H := H1
    clear H1
    obtain rfl := Option.some.inj H
    go_wp2
    go_ret
    exact ⟨rfw, blw⟩
   subst c11
   have H1 : (laws_eqTermS.l0 k1 l0 l1 (wrap64 (x5_1 + 1))) = some r := by rw [if_pos rfl] at H; exact H
   clear H
   have H := H1
   clear H1
   have H' := am H
   clear H
   go_wp2
   go_roundg k1
   case measure => have := HK1.out; omega
   case rel => exact ⟨(wrap64 (x5_1 + 1)), rfs, H', ⟨by have := HK1.out; omega⟩, ⟨blw⟩⟩

theorem laws_eqTerm.all (k : Nat) : (laws_eqTerm.T k) ∧ (laws_eqTermS.T k) := by
 induction k using Nat.strongRecOn with
 | _ k ih =>
 exact ⟨laws_eqTerm.step k (fun m hm_ => (ih m hm_).1) (fun m hm_ => (ih m hm_).2), laws_eqTermS.step k (fun m hm_ => (ih m hm_).2) (fun m hm_ => (ih m hm_).1)⟩

theorem laws_eqTerm.calls (k : Nat) : ∀ (a0_0 : Int) (a0_1 : ByteArray) (a0_2 : Int) (a0_3 : Int) (A0_4 : Option Addr) (c0_4 : Nat) (l0_4 : List ByteArray) (A0_5 : Option Addr) (c0_5 : Nat) (l0_5 : List (S33)) (A0_6 : Option Addr) (c0_6 : Nat) (l0_6 : List ByteArray) (A0_7 : Option Addr) (c0_7 : Nat) (l0_7 : List (S36)) (a1_0 : Int) (a1_1 : ByteArray) (a1_2 : Int) (a1_3 : Int) (A1_4 : Option Addr) (c1_4 : Nat) (l1_4 : List ByteArray) (A1_5 : Option Addr) (c1_5 : Nat) (l1_5 : List (S33)) (A1_6 : Option Addr) (c1_6 : Nat) (l1_6 : List ByteArray) (A1_7 : Option Addr) (c1_7 : Nat) (l1_7 : List (S36)) (r : Bool) (w : World) (hr0_4 : Kd.C Kd.string w A0_4 l0_4.length l0_4) (hc0_4 : l0_4.length ≤ c0_4) (hr0_5 : Kd.C k33 w A0_5 l0_5.length l0_5) (hc0_5 : l0_5.length ≤ c0_5) (hr0_6 : Kd.C Kd.string w A0_6 l0_6.length l0_6) (hc0_6 : l0_6.length ≤ c0_6) (hr0_7 : Kd.C k36 w A0_7 l0_7.length l0_7) (hc0_7 : l0_7.length ≤ c0_7) (hr1_4 : Kd.C Kd.string w A1_4 l1_4.length l1_4) (hc1_4 : l1_4.length ≤ c1_4) (hr1_5 : Kd.C k33 w A1_5 l1_5.length l1_5) (hc1_5 : l1_5.length ≤ c1_5) (hr1_6 : Kd.C Kd.string w A1_6 l1_6.length l1_6) (hc1_6 : l1_6.length ≤ c1_6) (hr1_7 : Kd.C k36 w A1_7 l1_7.length l1_7) (hc1_7 : l1_7.length ≤ c1_7) (h : laws_eqTerm.f k a0_0 a0_1 a0_2 a0_3 l0_4 l0_5 l0_6 l0_7 a1_0 a1_1 a1_2 a1_3 l1_4 l1_5 l1_6 l1_7 = some r),
  Calls Tryd.prog 8 #[.agg #[.int .i64 a0_0, .string a0_1, .int .i64 a0_2, .int .i64 a0_3, .slice A0_4 l0_4.length c0_4, .slice A0_5 l0_5.length c0_5, .slice A0_6 l0_6.length c0_6, .slice A0_7 l0_7.length c0_7], .agg #[.int .i64 a1_0, .string a1_1, .int .i64 a1_2, .int .i64 a1_3, .slice A1_4 l1_4.length c1_4, .slice A1_5 l1_5.length c1_5, .slice A1_6 l1_6.length c1_6, .slice A1_7 l1_7.length c1_7]] w fun e w' => e = .returned (.bool r) ∧ Below w.heap.size w w' := (laws_eqTerm.all k).1

end Go.Proofs.YtgplgphchdgedaaDoor.Px
end
section
namespace Go.Proofs.YtgplgphchdgedaaDoor.Px
open Go.RowKit Go.Proofs.YtgplgphchdgedaaDoorW.PrintWords Go.Proofs.YtgplgphchdgedaaDoor.Pl
set_option linter.unusedVariables false
set_option linter.unusedSimpArgs false
mutual
def wtTerm : S28 → Nat
  | ⟨x0, x1, x2, x3, x4, x5⟩ => x1.size + wtType x3 + wts x4 + (x5.length + wtTermS x5)
def wtTermS : List S28 → Nat
  | [] => 0
  | x :: r => wtTerm x + wtTermS r
end
mutual
def cvTerm : S28 → S36
  | ⟨x0, x1, x2, x3, x4, x5⟩ => ⟨x0, x1, x2, (cvType x3), x4, (cvTermS x5)⟩
def cvTermS : List S28 → List S36
  | [] => []
  | x :: r => cvTerm x :: cvTermS r
end
theorem wtTermS_sum (xs : List S28) : wtTermS xs = (xs.map wtTerm).sum := by
  induction xs with
  | nil => rfl
  | cons x r ih => simp [wtTermS, ih]
theorem cvTermS_map (xs : List S28) : cvTermS xs = xs.map cvTerm := by
  induction xs with
  | nil => rfl
  | cons x r ih => simp [cvTermS, ih]
theorem wtTerm_eq (x : S28) : wtTerm x = x.f1.size + wtType x.f3 + wts x.f4 + (x.f5.length + wtTermS x.f5) := by cases x; simp only [wtTerm]
theorem cvTerm_eq (x : S28) : cvTerm x = ⟨x.f0, x.f1, x.f2, (cvType x.f3), x.f4, (cvTermS x.f5)⟩ := by cases x; simp only [cvTerm]
theorem indTermL {P : S28 → Prop} (h : ∀ x, (∀ y ∈ x.f5, P y) → P x) : ∀ x, P x
  | ⟨x0, x1, x2, x3, x4, x5⟩ => h _ (fun y hy => indTermL h y)
termination_by x => SizeOf.sizeOf x
decreasing_by
  have := List.sizeOf_lt_of_mem hy
  simp at this ⊢
  omega
theorem indTermI {P : S36 → Prop} (h : ∀ x, (∀ y ∈ x.f5, P y) → P x) : ∀ x, P x
  | ⟨x0, x1, x2, x3, x4, x5⟩ => h _ (fun y hy => indTermI h y)
termination_by x => SizeOf.sizeOf x
decreasing_by
  have := List.sizeOf_lt_of_mem hy
  simp at this ⊢
  omega
inductive SmTerm : S36 → Prop
  | mk {x : S36} : ((Lit.int .i64 x.f0).wf = true) → (x.f1.size ≤ 1048576) → ((Lit.int .i64 x.f2).wf = true) → (SmType x.f3) → ((x.f4.length ≤ 1048576 ∧ ∀ y ∈ x.f4, y.size ≤ 1048576)) → x.f5.length ≤ 1048576 → (∀ y ∈ x.f5, SmTerm y) → SmTerm x
theorem SmTerm.p0 {x : S36} (h : SmTerm x) : (Lit.int .i64 x.f0).wf = true := by cases h; assumption
theorem SmTerm.p1 {x : S36} (h : SmTerm x) : x.f1.size ≤ 1048576 := by cases h; assumption
theorem SmTerm.p2 {x : S36} (h : SmTerm x) : (Lit.int .i64 x.f2).wf = true := by cases h; assumption
theorem SmTerm.p3 {x : S36} (h : SmTerm x) : SmType x.f3 := by cases h; assumption
theorem SmTerm.p4 {x : S36} (h : SmTerm x) : (x.f4.length ≤ 1048576 ∧ ∀ y ∈ x.f4, y.size ≤ 1048576) := by cases h; assumption
theorem SmTerm.p5 {x : S36} (h : SmTerm x) : x.f5.length ≤ 1048576 ∧ ∀ y ∈ x.f5, SmTerm y := by cases h; constructor <;> assumption
theorem etaTerm (x : S36) : (⟨x.f0, x.f1, x.f2, (⟨x.f3.f0, x.f3.f1, x.f3.f2⟩ : S33), x.f4, x.f5⟩ : S36) = x := by obtain ⟨_, _, _, ⟨_, _, _⟩, _, _⟩ := x; rfl
mutual
def ndTerm : S36 → Nat
  | ⟨x0, x1, x2, x3, x4, x5⟩ => 1 + ndTermS x5
def ndTermS : List S36 → Nat
  | [] => 0
  | x :: r => ndTerm x + ndTermS r
end
theorem ndTermS_sum (xs : List S36) : ndTermS xs = (xs.map ndTerm).sum := by
  induction xs with
  | nil => rfl
  | cons x r ih => simp [ndTermS, ih]
theorem ndTerm_eq (x : S36) : ndTerm x = 1 + (x.f5.map ndTerm).sum := by cases x; simp only [ndTerm, ndTermS_sum]
theorem ndTerm_cv : ∀ x : S28, ndTerm (cvTerm x) ≤ wtTerm x + 1 := by
  refine indTermL fun x ih => ?_
  rw [ndTerm_eq, cvTerm_eq, wtTerm_eq]
  have hL : ∀ l : List S28, (∀ y ∈ l, ndTerm (cvTerm y) ≤ wtTerm y + 1) → ((l.map cvTerm).map ndTerm).sum ≤ l.length + (l.map wtTerm).sum := by
    intro l
    induction l with
    | nil => intro _; simp
    | cons y r ih2 =>
      intro h
      have h1 := h y (List.mem_cons_self ..)
      have h2 := ih2 (fun z hz => h z (List.mem_cons_of_mem _ hz))
      simp only [List.map_cons, List.sum_cons, List.length_cons] at h2 ⊢
      omega
  have := hL x.f5 ih
  (try dsimp only)
  rw [cvTermS_map, wtTermS_sum]
  omega
theorem smTerm_of : ∀ x : S28, W28 x → wtTerm x ≤ 1048576 → SmTerm (cvTerm x) := by
  refine indTermL fun x ih hw hw2 => ?_
  have hb := hw2
  rw [wtTerm_eq] at hb
  rw [cvTerm_eq]
  exact SmTerm.mk (hw.p0) (by (try dsimp only); omega) (hw.p2) (smType_of _ hw.p3 (by omega)) (⟨by (try dsimp only); unfold wts at hb; omega, fun y hy => by (try dsimp only at hy); have := sum_le_of_mem ByteArray.size hy; unfold wts szs at hb; omega⟩) (by (try dsimp only); rw [cvTermS_map, List.length_map]; omega) (fun z hz => by
      (try dsimp only at hz)
      rw [cvTermS_map] at hz
      obtain ⟨y, hy, rfl⟩ := List.mem_map.1 hz
      exact ih y hy (hw.p5.2 y hy) (by have := sum_le_of_mem wtTerm hy; rw [← wtTermS_sum] at this; omega))
theorem szTermS_of (xs : List S28) (hx : xs.length ≤ maxLen) (h : ∀ y ∈ xs, ∀ left : Int, 0 ≤ left → left ≤ 1048576 → Ev (fun k => laws_szTerm.f k (y.f0) (y.f1) (y.f2) (y.f3.f0) (y.f3.f1) (y.f3.f2) (y.f4) (y.f5) left) (cut (wtTerm y) left)) (left : Int) (h0 : 0 ≤ left) (hl : left ≤ 1048576) : Ev (fun k => laws_szTermS.f k xs left) (cut (xs.length + wtTermS xs) left) := by
  refine Ev.up ?_
  simp only [laws_szTermS.f]
  have hs := cut_sub (n := xs.length) h0 hl hx
  by_cases hc : cut xs.length left < 0
  · exact Ev.pos (hs.1.2 hc) (Ev.const (cut_add' hc).symm)
  · refine Ev.neg (fun h => hc (hs.1.1 h)) ?_
    rw [hs.2 (by omega)]
    have hl2 := cut_le (n := xs.length) h0
    have hw := sz_loop xs.length (fun k i left => laws_szTerm.f k ((rd_T28 xs (i : Int)).f0) ((rd_T28 xs (i : Int)).f1) ((rd_T28 xs (i : Int)).f2) ((rd_T28 xs (i : Int)).f3.f0) ((rd_T28 xs (i : Int)).f3.f1) ((rd_T28 xs (i : Int)).f3.f2) ((rd_T28 xs (i : Int)).f4) ((rd_T28 xs (i : Int)).f5) left) (fun k left i => laws_szTermS.l0 k xs left (i : Int)) (fun i => wtTerm (xs.getD i z28)) (fun k left i hi => by
      simp only [laws_szTermS.l0]
      rw [if_pos (by omega), if_pos (by omega), w1 hi hx]) (fun k left => by simp only [laws_szTermS.l0]; rw [if_neg (by omega)]) (fun i left hi h0 hl => h _ (mem_getD xs z28 i hi) left h0 hl) xs.length 0 _ (by omega) (show 0 ≤ cut xs.length left by omega) (by omega)
    refine Ev.eq hw ?_
    rw [cut_add (by omega), sumF_list wtTerm z28 xs xs.length 0 (by omega), wtTermS_sum]
    rfl
theorem szTerm_ev : ∀ x : S28, W28 x → ∀ left : Int, 0 ≤ left → left ≤ 1048576 → Ev (fun k => laws_szTerm.f k (x.f0) (x.f1) (x.f2) (x.f3.f0) (x.f3.f1) (x.f3.f2) (x.f4) (x.f5) left) (cut (wtTerm x) left) := by
  refine indTermL fun x ih hw left h0 hl => ?_
  refine Ev.up ?_
  simp only [laws_szTerm.f]
  rw [wtTerm_eq]
  have hb0 : (0 : Int) ≤ left ∧ left ≤ 1048576 := ⟨h0, hl⟩
  have hs0 := cut_sub (n := x.f1.size) hb0.1 hb0.2 (hw.p1)
  by_cases hc0 : cut (x.f1.size) left < 0
  · refine Ev.pos (hs0.1.2 hc0) (Ev.const ?_)
    have hn : cut (x.f1.size) left < 0 := hc0
    have hn : cut (x.f1.size + wtType x.f3) left < 0 := by rw [cut_add' hn]; omega
    have hn : cut (x.f1.size + wtType x.f3 + wts x.f4) left < 0 := by rw [cut_add' hn]; omega
    have hn : cut (x.f1.size + wtType x.f3 + wts x.f4 + (x.f5.length + wtTermS x.f5)) left < 0 := by rw [cut_add' hn]; omega
    have hv := cut_neg.1 hn; unfold cut; rw [if_neg hv]
  refine Ev.neg (fun h => hc0 (hs0.1.1 h)) ?_
  rw [hs0.2 (by omega)]
  have hb1 : (0 : Int) ≤ cut (x.f1.size) left ∧ cut (x.f1.size) left ≤ 1048576 := ⟨by omega, by have := cut_le (n := x.f1.size) h0; omega⟩
  refine Ev.bind (szType_ev x.f3 hw.p3 _ hb1.1 hb1.2) ?_
  by_cases hc1 : cut (wtType x.f3) (cut (x.f1.size) left) < 0
  · refine Ev.pos hc1 (Ev.const ?_)
    have hn : cut (x.f1.size + wtType x.f3) left < 0 := by rw [← cut_add (by omega)]; exact hc1
    have hn : cut (x.f1.size + wtType x.f3 + wts x.f4) left < 0 := by rw [cut_add' hn]; omega
    have hn : cut (x.f1.size + wtType x.f3 + wts x.f4 + (x.f5.length + wtTermS x.f5)) left < 0 := by rw [cut_add' hn]; omega
    have hv := cut_neg.1 hn; unfold cut; rw [if_neg hv]
  refine Ev.neg hc1 ?_
  rw [cut_add (by omega)] at hc1 ⊢
  have hb2 : (0 : Int) ≤ cut (x.f1.size + wtType x.f3) left ∧ cut (x.f1.size + wtType x.f3) left ≤ 1048576 := ⟨by omega, by have := cut_le (n := x.f1.size + wtType x.f3) h0; omega⟩
  refine Ev.bind (szStringS_ev x.f4 hw.p4 _ hb2.1 hb2.2) ?_
  by_cases hc2 : cut (wts x.f4) (cut (x.f1.size + wtType x.f3) left) < 0
  · refine Ev.pos hc2 (Ev.const ?_)
    have hn : cut (x.f1.size + wtType x.f3 + wts x.f4) left < 0 := by rw [← cut_add (by omega)]; exact hc2
    have hn : cut (x.f1.size + wtType x.f3 + wts x.f4 + (x.f5.length + wtTermS x.f5)) left < 0 := by rw [cut_add' hn]; omega
    have hv := cut_neg.1 hn; unfold cut; rw [if_neg hv]
  refine Ev.neg hc2 ?_
  rw [cut_add (by omega)] at hc2 ⊢
  have hb3 : (0 : Int) ≤ cut (x.f1.size + wtType x.f3 + wts x.f4) left ∧ cut (x.f1.size + wtType x.f3 + wts x.f4) left ≤ 1048576 := ⟨by omega, by have := cut_le (n := x.f1.size + wtType x.f3 + wts x.f4) h0; omega⟩
  refine Ev.bind (szTermS_of x.f5 hw.p5.1 (fun y hy => ih y hy (hw.p5.2 y hy)) _ hb3.1 hb3.2) ?_
  by_cases hc3 : cut ((x.f5.length + wtTermS x.f5)) (cut (x.f1.size + wtType x.f3 + wts x.f4) left) < 0
  · refine Ev.pos hc3 (Ev.const ?_)
    have hn : cut (x.f1.size + wtType x.f3 + wts x.f4 + (x.f5.length + wtTermS x.f5)) left < 0 := by rw [← cut_add (by omega)]; exact hc3
    have hv := cut_neg.1 hn; unfold cut; rw [if_neg hv]
  refine Ev.neg hc3 ?_
  rw [cut_add (by omega)] at hc3 ⊢
  have hb4 : (0 : Int) ≤ cut (x.f1.size + wtType x.f3 + wts x.f4 + (x.f5.length + wtTermS x.f5)) left ∧ cut (x.f1.size + wtType x.f3 + wts x.f4 + (x.f5.length + wtTermS x.f5)) left ≤ 1048576 := ⟨by omega, by have := cut_le (n := x.f1.size + wtType x.f3 + wts x.f4 + (x.f5.length + wtTermS x.f5)) h0; omega⟩
  exact Ev.const rfl
theorem toTermS_of (xs : List S28) (hx : xs.length ≤ 1048576) (h : ∀ y ∈ xs, Ev (fun k => laws_toTerm.f k (y.f0) (y.f1) (y.f2) (y.f3.f0) (y.f3.f1) (y.f3.f2) (y.f4) (y.f5)) ((cvTerm y).f0, (cvTerm y).f1, (cvTerm y).f2, (cvTerm y).f3.f0, (cvTerm y).f3.f1, (cvTerm y).f3.f2, (cvTerm y).f4, (cvTerm y).f5)) : Ev (fun k => laws_toTermS.f k xs) (cvTermS xs) := by
  refine Ev.up ?_
  simp only [laws_toTermS.f]
  refine Ev.pos (by omega) (Ev.pos (by omega) ?_)
  have hw := to_loop xs.length (fun k i => (laws_toTerm.f k ((rd_T28 xs (i : Int)).f0) ((rd_T28 xs (i : Int)).f1) ((rd_T28 xs (i : Int)).f2) ((rd_T28 xs (i : Int)).f3.f0) ((rd_T28 xs (i : Int)).f3.f1) ((rd_T28 xs (i : Int)).f3.f2) ((rd_T28 xs (i : Int)).f4) ((rd_T28 xs (i : Int)).f5)).map fun t => (⟨t.1, t.2.1, t.2.2.1, (⟨t.2.2.2.1, t.2.2.2.2.1, t.2.2.2.2.2.1⟩ : S33), t.2.2.2.2.2.2.1, t.2.2.2.2.2.2.2⟩ : S36)) (fun k out i => laws_toTermS.l0 k xs out (i : Int)) (fun i => cvTerm (xs.getD i z28)) (fun k out i hi hl => by
    simp only [laws_toTermS.l0]
    rw [if_pos (by omega), if_pos (by omega)]
    rcases laws_toTerm.f k ((rd_T28 xs (i : Int)).f0) ((rd_T28 xs (i : Int)).f1) ((rd_T28 xs (i : Int)).f2) ((rd_T28 xs (i : Int)).f3.f0) ((rd_T28 xs (i : Int)).f3.f1) ((rd_T28 xs (i : Int)).f3.f2) ((rd_T28 xs (i : Int)).f4) ((rd_T28 xs (i : Int)).f5) with _ | t
    · rfl
    · simp only [Option.map_some, Option.bind_some]
      rw [if_pos (by omega), w1' hi hx]
      rfl) (fun k out => by simp only [laws_toTermS.l0]; rw [if_neg (by omega)]) (fun i hi => Ev.eq (Ev.map (fun t => (⟨t.1, t.2.1, t.2.2.1, (⟨t.2.2.2.1, t.2.2.2.2.1, t.2.2.2.2.2.1⟩ : S33), t.2.2.2.2.2.2.1, t.2.2.2.2.2.2.2⟩ : S36)) (h _ (mem_getD xs z28 i hi))) (etaTerm _)) xs.length 0 (List.replicate ((xs.length : Int)).toNat z36) (by omega) (by simp)
  refine Ev.eq hw ?_
  rw [List.take_zero, List.nil_append, range_map_getElem cvTerm z28 xs, cvTermS_map]
theorem toTerm_ev : ∀ x : S28, wtTerm x ≤ 1048576 → Ev (fun k => laws_toTerm.f k (x.f0) (x.f1) (x.f2) (x.f3.f0) (x.f3.f1) (x.f3.f2) (x.f4) (x.f5)) ((cvTerm x).f0, (cvTerm x).f1, (cvTerm x).f2, (cvTerm x).f3.f0, (cvTerm x).f3.f1, (cvTerm x).f3.f2, (cvTerm x).f4, (cvTerm x).f5) := by
  refine indTermL fun x ih hw2 => ?_
  refine Ev.up ?_
  simp only [laws_toTerm.f]
  have hb := hw2
  rw [wtTerm_eq] at hb
  refine Ev.bind (toType_ev x.f3 (by omega)) ?_
  refine Ev.bind (toStringS_ev x.f4 (by unfold wts at hb; omega)) ?_
  refine Ev.bind (toTermS_of x.f5 (by omega) (fun y hy => ih y hy (by have := sum_le_of_mem wtTerm hy; rw [← wtTermS_sum] at this; omega))) ?_
  exact Ev.const (by rw [cvTerm_eq])
theorem eqTermS_of (xs : List S36) (hx : xs.length ≤ 1048576) (h : ∀ y ∈ xs, Ev (fun k => laws_eqTerm.f k (y.f0) (y.f1) (y.f2) (y.f3.f0) (y.f3.f1) (y.f3.f2) (y.f4) (y.f5) (y.f0) (y.f1) (y.f2) (y.f3.f0) (y.f3.f1) (y.f3.f2) (y.f4) (y.f5)) true) : Ev (fun k => laws_eqTermS.f k xs xs) true := by
  refine Ev.up ?_
  simp only [laws_eqTermS.f]
  refine Ev.pos (by simp) ?_
  exact eq_loop xs.length (fun k i => laws_eqTerm.f k ((rd_T36 xs (i : Int)).f0) ((rd_T36 xs (i : Int)).f1) ((rd_T36 xs (i : Int)).f2) ((rd_T36 xs (i : Int)).f3.f0) ((rd_T36 xs (i : Int)).f3.f1) ((rd_T36 xs (i : Int)).f3.f2) ((rd_T36 xs (i : Int)).f4) ((rd_T36 xs (i : Int)).f5) ((rd_T36 xs (i : Int)).f0) ((rd_T36 xs (i : Int)).f1) ((rd_T36 xs (i : Int)).f2) ((rd_T36 xs (i : Int)).f3.f0) ((rd_T36 xs (i : Int)).f3.f1) ((rd_T36 xs (i : Int)).f3.f2) ((rd_T36 xs (i : Int)).f4) ((rd_T36 xs (i : Int)).f5)) (fun k i => laws_eqTermS.l0 k xs xs (i : Int)) (fun k i hi => by
    simp only [laws_eqTermS.l0]
    rw [if_pos (by omega), if_pos (by omega), if_pos (by omega), w1' hi hx]) (fun k => by simp only [laws_eqTermS.l0]; rw [if_neg (by omega)]) (fun i hi => h _ (mem_getD xs z36 i hi)) xs.length 0 (by omega)
theorem eqTerm_ev : ∀ x : S36, SmTerm x → Ev (fun k => laws_eqTerm.f k (x.f0) (x.f1) (x.f2) (x.f3.f0) (x.f3.f1) (x.f3.f2) (x.f4) (x.f5) (x.f0) (x.f1) (x.f2) (x.f3.f0) (x.f3.f1) (x.f3.f2) (x.f4) (x.f5)) true := by
  refine indTermI fun x ih hs => ?_
  refine Ev.up ?_
  simp only [laws_eqTerm.f]
  refine Ev.pos (by simp) ?_
  refine Ev.pos (by simp) ?_
  refine Ev.pos (by simp) ?_
  refine Ev.bind (eqType_ev x.f3 hs.p3) (Ev.pos (by simp) ?_)
  refine Ev.bind (eqStringS_ev x.f4 hs.p4.1) (Ev.pos (by simp) ?_)
  refine Ev.bind (eqTermS_of x.f5 hs.p5.1 (fun y hy => ih y hy (hs.p5.2 y hy))) (Ev.pos (by simp) ?_)
  exact Ev.now _
end Go.Proofs.YtgplgphchdgedaaDoor.Px
end
section
namespace Go.Proofs.YtgplgphchdgedaaDoor.Px
open Go.RowKit Go.Proofs.YtgplgphchdgedaaDoorW.PrintWords Go.Proofs.YtgplgphchdgedaaDoorW.PrintLast Go.Proofs.YtgplgphchdgedaaDoorW.PrintMore Go.Proofs.YtgplgphchdgedaaDoor.Pl Go.Proofs.YtgplgphchdgedaaDoor.Ext
set_option linter.unusedVariables false
set_option linter.unusedSimpArgs false
def TextOK (x : S36) : Prop := ∀ (ad0 : Addr) (w0 w : World) (b : Nat) (l : List UInt8), Tr w0 ad0 x → Laid w0 → Bl w0 b l w → Below w0.heap.size w0 w → l.length + (txL x).length ≤ 140737488355328 →
    Calls Tryd.prog 34 #[.pointer (some ad0), .pointer (some ⟨b, 0, none⟩)] w fun e w' => e = .returned (.tuple #[]) ∧ Bl w0 b (l ++ txL x) w' ∧ Below w0.heap.size w0 w' ∧ Kp b w w'
def tabA.T0 : Bool × List (List Nat × List Nat) := (true, [([], []), ([0], [0]), ([1], [1]), ([2], [2]), ([], []), ([3, 4], [3, 4]), ([], []), ([5, 6], [5, 6])])
def tabA.B0 : List Nat := [0, 1, 3, 7, 0, 31, 0, 127]
theorem tabA.tab0 : rtab .any (opsOf Tryd.f43 0) = tabA.T0 := by kernel_rfl
theorem tabA.bits0 : waitsOk tabA.T0.2 tabA.B0 = true := by kernel_rfl
set_option maxHeartbeats 8000000 in
set_option maxRecDepth 100000 in
theorem arg_go (x : S36) (hx : ∀ y ∈ x.f5, TextOK y) (ad0 : Addr) (w0 w : World) (b be bo : Nat) (l : List UInt8) (i : Nat) (hT : Tr w0 ad0 x) (hL : Laid w0) (hB : Bl w0 b l w) (hb : Below w0.heap.size w0 w) (hbe : w.heap[be]? = some (.cells #[.pointer (some ad0)] 59 (0, 0))) (hbo : w.heap[bo]? = some (.cells #[.pointer (some ⟨b, 0, none⟩)] 61 (0, 0))) (hi : i < x.f5.length) (hl : l.length + (txL (x.f5.getD i z36)).length ≤ 140737488355328) :
    Calls Tryd.prog 43 #[.int .i64 (i : Int), .pointer (some ⟨be, 0, none⟩), .pointer (some ⟨bo, 0, none⟩)] w fun e w' => e = .returned (.tuple #[]) ∧ Bl w0 b (l ++ txL (x.f5.getD i z36)) w' ∧ Below w0.heap.size w0 w' ∧ Kp b w w' := by
  have HX := Aside0.mk hx; have HLD := Aside0.mk hL; have HB := Aside0.mk hB; have HW := Aside0.mk hb; have HBE := Aside0.mk hbe; have HBO := Aside0.mk hbo; have HI := Aside0.mk hi; have HL := Aside0.mk hl; have HK := Aside0.mk (Kp.refl b w)
  obtain ⟨A4, c4, A5, c5, A6, c6, A7, c7, hp, h4, h5, h6, h7⟩ := hT
  have d2 : (i : Int) < (x.f5.length : Int) := by omega
  have d3 := eq_true d2
  have d5 : (0 ≤ (i : Int)) = True := eq_true (by omega)
  obtain ⟨ad, B4, e4, B5, e5, B6, e6, B7, e7, eA, y0, y1, y2, y3, y4, y5, y6, y7, m4, o4, m5, o5, m6, o6, m7, o7⟩ := at_T36 h7.1 (i : Int) (by omega) d2
  cases eA
  have HY := Aside0.mk (show Tr w0 (ad.add (i * 8)) (x.f5.getD i z36) from ⟨B4, e4, B5, e5, B6, e6, B7, e7, ⟨y0, y1, y2, y3, y4, y5, y6, y7, trivial⟩, ⟨o4, m4⟩, ⟨o5, m5⟩, ⟨o6, m6⟩, ⟨o7, m7⟩⟩)
  have HP := Aside0.mk hp
  clear hx hL hB hb hbe hbo hi hl hp h4 h5 h6 h7 y0 y1 y2 y3 y4 y5 y6 y7 m4 o4 m5 o5 m6 o6 m7 o7 d2
  go_enter Tryd.func43, Tryd.ntmps43
  try go_wp2
  replace HBE := Aside0.mk (blk_drew HBE.out)
  replace HBO := Aside0.mk (blk_drew HBO.out)
  replace HB := Aside0.mk (HB.out.below (below_drew1 (Below.refl _ _)))
  replace HW := Aside0.mk (below_drew1 HW.out)
  replace HK := Aside0.mk (HK.out.below (below_drew1 (Below.refl _ _)))
  refine start_ (n := 8) (S := fun w' => w'.cell? ⟨be, 0, none⟩ = some (.pointer (some ad0)) ∧ w'.cell? ⟨ad0.block, ad0.off + 7, none⟩ = some (.slice (some ad) x.f5.length c7) ∧ w'.cell? ⟨bo, 0, none⟩ = some (.pointer (some ⟨b, 0, none⟩))) (ds := []) #[false, false, false, false, false, false, false, false] (by kernel_rfl) rfl rfl ⟨(blk_cell HBE.out 0).trans rfl, pw_cell_below HW.out HP.out.2.2.2.2.2.2.2.1, (blk_cell HBO.out 0).trans rfl⟩ (fun hHeld => ?_); refine with_tabW tabA.tab0 tabA.bits0 (fun HT_ HW_ => ?_)
  generalize w.drew = w1 at HBE HBO HB HW HK hHeld ⊢
  refine take_ (i := 0) (N := some 4) (v := ?_) (a' := ?_) #[true, false, false, false, false, false, false, false] rfl rfl (take_ofW HT_.out HW_.out (by kernel_rfl)) (fun _ _ _ h => h) (Or.inl ⟨by rfl, ?_⟩) hHeld ?_ ?_
  rotate_left
  · rintro w' ⟨s0, s1, s2⟩
    go_simp
    with_reducible rfl
  rotate_left
  · simp only [Act.put, List.setIfInBounds_toArray, List.set_cons_zero, List.set_cons_succ, i64_w, i32_w]
    rfl
  refine pure_ (i := 1) (N := some 5) (v := ?_) (a' := ?_) #[true, true, false, false, false, false, false, false] rfl rfl (any_of HT_.out (by kernel_rfl)) (fun _ _ _ h => h) (Or.inl ⟨by rfl, ?_⟩) ?_ ?_
  rotate_left
  · intro w'
    go_simp
    try with_reducible rfl
  rotate_left
  · simp only [Act.put, List.setIfInBounds_toArray, List.set_cons_zero, List.set_cons_succ, i64_w, i32_w]
    rfl
  refine pure_ (i := 2) (N := some 6) (v := ?_) (a' := ?_) #[true, true, true, false, false, false, false, false] rfl rfl (any_of HT_.out (by kernel_rfl)) (fun _ _ _ h => h) (Or.inl ⟨by rfl, ?_⟩) ?_ ?_
  rotate_left
  · intro w'
    go_simp
    try with_reducible rfl
  rotate_left
  · simp only [Act.put, List.setIfInBounds_toArray, List.set_cons_zero, List.set_cons_succ, i64_w, i32_w]
    rfl
  refine take_ (i := 3) (N := some 7) (v := ?_) (a' := ?_) #[true, true, true, true, false, false, false, false] rfl rfl (take_ofW HT_.out HW_.out (by kernel_rfl)) (fun _ _ _ h => h) (Or.inl ⟨by rfl, ?_⟩) hHeld ?_ ?_
  rotate_left
  · rintro w' ⟨s0, s1, s2⟩
    go_simp
    with_reducible rfl
  rotate_left
  · simp only [Act.put, List.setIfInBounds_toArray, List.set_cons_zero, List.set_cons_succ, i64_w, i32_w]
    rfl
  refine pure_ (i := 4) (N := some 8) (v := ?_) (a' := ?_) #[true, true, true, true, true, false, false, false] rfl rfl (any_of HT_.out (by kernel_rfl)) (fun _ _ _ h => h) (Or.inl ⟨by rfl, ?_⟩) ?_ ?_
  rotate_left
  · intro w'
    go_simp
    try with_reducible rfl
  rotate_left
  · simp only [Act.put, List.setIfInBounds_toArray, List.set_cons_zero, List.set_cons_succ, i64_w, i32_w]
    rfl
  refine pure_ (i := 5) (N := some 9) (v := ?_) (a' := ?_) #[true, true, true, true, true, true, false, false] rfl rfl (any_of HT_.out (by kernel_rfl)) (fun _ _ _ h => h) (Or.inl ⟨by rfl, ?_⟩) ?_ ?_
  rotate_left
  · intro w'
    go_simp
    try with_reducible rfl
  rotate_left
  · simp only [Act.put, List.setIfInBounds_toArray, List.set_cons_zero, List.set_cons_succ, i64_w, i32_w]
    rfl
  refine take_ (i := 6) (N := some 10) (v := ?_) (a' := ?_) #[true, true, true, true, true, true, true, false] rfl rfl (take_ofW HT_.out HW_.out (by kernel_rfl)) (fun _ _ _ h => h) (Or.inl ⟨by rfl, ?_⟩) hHeld ?_ ?_
  rotate_left
  · rintro w' ⟨s0, s1, s2⟩
    go_simp
    with_reducible rfl
  rotate_left
  · simp only [Act.put, List.setIfInBounds_toArray, List.set_cons_zero, List.set_cons_succ, i64_w, i32_w]
    rfl
  refine one_ (i := 7) (N := some 11) #[true, true, true, true, true, true, true, true] rfl rfl (one_of HT_.out (by kernel_rfl)) (by decide) (fun K hK => ?_)
  refine goes_ Tryd.func34 (by kernel_rfl) rfl #[.pointer (some (ad.add (i * 8))), .pointer (some ⟨b, 0, none⟩)] (by rfl) rfl rfl (by (try simp only [List.map_toArray, List.map_cons, List.map_nil]); first | done | rfl | (simp only [List.length_drop, List.length_take]; rfl)) ?_
  refine (HX.out _ (mem_getD x.f5 z36 i HI.out) _ w0 w1 b l HY.out HLD.out HB.out HW.out HL.out).mono ?_
  rintro e w2 ⟨rfl, hB, hb, hk⟩
  refine ⟨_, rfl, ?_⟩
  have mHBE := Aside0.mk (hk.box HB.out HBE.out (by decide) (by decide))
  have mHBO := Aside0.mk (hk.box HB.out HBO.out (by decide) (by decide))
  replace HK := Aside0.mk (HK.out.trans hk)
  clear HB HW HBE HBO
  have HBE := mHBE
  have HBO := mHBO
  have HB := Aside0.mk hB; have HW := Aside0.mk hb
  clear hB hb hk mHBE mHBO
  refine hK.out _ _ ⟨(blk_cell HBE.out 0).trans rfl, pw_cell_below HW.out HP.out.2.2.2.2.2.2.2.1, (blk_cell HBO.out 0).trans rfl⟩ (fun hHeld => ?_)
  clear hK K
  refine norm_ (a' := ?_) ?_ ?_
  rotate_left
  · show Act.put _ (some 11) _ = _
    simp only [Act.put, List.setIfInBounds_toArray, List.set_cons_zero, List.set_cons_succ, i64_w, i32_w]
    rfl
  refine done_ (done_of HT_.out (by kernel_rfl)) ?_
  clear HT_ HW_
  clear hHeld
  try go_wp2
  (first | go_ret | go_end0 | refine bodyPost_ret (results_none rfl _ _ _) rfl ?_)
  exact ⟨rfl, HB.out, HW.out, HK.out⟩
set_option maxHeartbeats 8000000 in
set_option maxRecDepth 100000 in
theorem between_go (x : S36) (hx : ∀ y ∈ x.f5, TextOK y) (ad0 : Addr) (w0 w : World) (b be bo bp ba : Nat) (l : List UInt8) (s1 s2 s3 : ByteArray) (hT : Tr w0 ad0 x) (hL : Laid w0) (hB : Bl w0 b l w) (hb : Below w0.heap.size w0 w) (hbe : w.heap[be]? = some (.cells #[.pointer (some ad0)] 59 (0, 0))) (hbo : w.heap[bo]? = some (.cells #[.pointer (some ⟨b, 0, none⟩)] 61 (0, 0))) (hbp : w.heap[bp]? = some (.cells #[.func (.func 41) #[] #[.pointer (some ⟨bo, 0, none⟩)]] 73 (0, 0))) (hba : w.heap[ba]? = some (.cells #[.func (.func 43) #[] #[.pointer (some ⟨be, 0, none⟩), .pointer (some ⟨bo, 0, none⟩)]] 74 (0, 0))) (h2 : 2 ≤ x.f5.length) (hl : (l ++ bb s1 ++ txL (x.f5.getD 0 z36) ++ bb s2 ++ txL (x.f5.getD 1 z36) ++ bb s3).length ≤ 140737488355328) :
    Calls Tryd.prog 44 #[.string s1, .string s2, .string s3, .pointer (some ⟨bp, 0, none⟩), .pointer (some ⟨ba, 0, none⟩)] w fun e w' => e = .returned (.tuple #[]) ∧ Bl w0 b (l ++ bb s1 ++ txL (x.f5.getD 0 z36) ++ bb s2 ++ txL (x.f5.getD 1 z36) ++ bb s3) w' ∧ Below w0.heap.size w0 w' ∧ Kp b w w' := by
  have HX := Aside0.mk hx; have HT := Aside0.mk hT; have HLD := Aside0.mk hL; have HB := Aside0.mk hB; have HW := Aside0.mk hb; have HBE := Aside0.mk hbe; have HBO := Aside0.mk hbo; have HBP := Aside0.mk hbp; have HBA := Aside0.mk hba; have H2 := Aside0.mk h2; have HL := Aside0.mk hl; have HK := Aside0.mk (Kp.refl b w)
  clear hx hT hL hB hb hbe hbo hbp hba h2 hl
  have hxp : w.cell? ⟨bp, 0, none⟩ = some (.func (.func 41) #[] #[.pointer (some ⟨bo, 0, none⟩)]) := (blk_cell HBP.out 0).trans rfl
  have hxa : w.cell? ⟨ba, 0, none⟩ = some (.func (.func 43) #[] #[.pointer (some ⟨be, 0, none⟩), .pointer (some ⟨bo, 0, none⟩)]) := (blk_cell HBA.out 0).trans rfl
  go_enter Tryd.func44, Tryd.ntmps44
  go_wp2_with (first | ((with_reducible refine gate_calleev (t := 8) rfl ?_); refine goesV1_ 8 (some 11) rfl rfl rfl Tryd.func41 (by kernel_rfl) rfl #[.slice (some ⟨w.heap.size, 0, none⟩) 1 1, .pointer (some ⟨bo, 0, none⟩)] rfl (by (try simp only [List.map_toArray, List.map_cons, List.map_nil]); first | done | rfl | (simp only [List.length_drop, List.length_take]; rfl)) ?_; refine (putX w0 b bo [s1] (bb s1) _ w (by simp [cat, bb]) (by simp) HB.out HW.out HBO.out (by have := HL.out; simp only [List.length_append] at this ⊢; omega)).mono ?_; rintro e v1 ⟨rfl, hB, hb, hk⟩; refine ⟨_, rfl, ?_⟩; have mHBE := Aside0.mk (hk.box HB.out HBE.out (by decide) (by decide)); have mHBO := Aside0.mk (hk.box HB.out HBO.out (by decide) (by decide)); have mHBP := Aside0.mk (hk.box HB.out HBP.out (by decide) (by decide)); have mHBA := Aside0.mk (hk.box HB.out HBA.out (by decide) (by decide)); replace HK := Aside0.mk (HK.out.trans hk); clear HB HW HBE HBO HBP HBA; have HBE := mHBE; have HBO := mHBO; have HBP := mHBP; have HBA := mHBA; have HB := Aside0.mk hB; have HW := Aside0.mk hb; clear hB hb hk mHBE mHBO mHBP mHBA; clear hxp hxa; have hxp : v1.cell? ⟨bp, 0, none⟩ = some (.func (.func 41) #[] #[.pointer (some ⟨bo, 0, none⟩)]) := (blk_cell HBP.out 0).trans rfl; have hxa : v1.cell? ⟨ba, 0, none⟩ = some (.func (.func 43) #[] #[.pointer (some ⟨be, 0, none⟩), .pointer (some ⟨bo, 0, none⟩)]) := (blk_cell HBA.out 0).trans rfl) | ((with_reducible refine gate_calleev (t := 12) rfl ?_); refine goesV1_ 12 (some 13) rfl rfl rfl Tryd.func43 (by kernel_rfl) rfl #[.int .i64 0, .pointer (some ⟨be, 0, none⟩), .pointer (some ⟨bo, 0, none⟩)] rfl (by (try simp only [List.map_toArray, List.map_cons, List.map_nil]); first | done | rfl | (simp only [List.length_drop, List.length_take]; rfl)) ?_; refine (arg_go x HX.out ad0 w0 v1 b be bo _ 0 HT.out HLD.out HB.out HW.out HBE.out HBO.out (by have := H2.out; omega) (by have := HL.out; simp only [List.length_append] at this ⊢; omega)).mono ?_; rintro e v2 ⟨rfl, hB, hb, hk⟩; refine ⟨_, rfl, ?_⟩; have mHBE := Aside0.mk (hk.box HB.out HBE.out (by decide) (by decide)); have mHBO := Aside0.mk (hk.box HB.out HBO.out (by decide) (by decide)); have mHBP := Aside0.mk (hk.box HB.out HBP.out (by decide) (by decide)); have mHBA := Aside0.mk (hk.box HB.out HBA.out (by decide) (by decide)); replace HK := Aside0.mk (HK.out.trans hk); clear HB HW HBE HBO HBP HBA; have HBE := mHBE; have HBO := mHBO; have HBP := mHBP; have HBA := mHBA; have HB := Aside0.mk hB; have HW := Aside0.mk hb; clear hB hb hk mHBE mHBO mHBP mHBA; clear hxp hxa; have hxp : v2.cell? ⟨bp, 0, none⟩ = some (.func (.func 41) #[] #[.pointer (some ⟨bo, 0, none⟩)]) := (blk_cell HBP.out 0).trans rfl; have hxa : v2.cell? ⟨ba, 0, none⟩ = some (.func (.func 43) #[] #[.pointer (some ⟨be, 0, none⟩), .pointer (some ⟨bo, 0, none⟩)]) := (blk_cell HBA.out 0).trans rfl) | ((with_reducible refine gate_calleev (t := 14) rfl ?_); refine goesV1_ 14 (some 17) rfl rfl rfl Tryd.func41 (by kernel_rfl) rfl #[.slice (some ⟨v2.heap.size, 0, none⟩) 1 1, .pointer (some ⟨bo, 0, none⟩)] rfl (by (try simp only [List.map_toArray, List.map_cons, List.map_nil]); first | done | rfl | (simp only [List.length_drop, List.length_take]; rfl)) ?_; refine (putX w0 b bo [s2] (bb s2) _ v2 (by simp [cat, bb]) (by simp) HB.out HW.out HBO.out (by have := HL.out; simp only [List.length_append] at this ⊢; omega)).mono ?_; rintro e v3 ⟨rfl, hB, hb, hk⟩; refine ⟨_, rfl, ?_⟩; have mHBE := Aside0.mk (hk.box HB.out HBE.out (by decide) (by decide)); have mHBO := Aside0.mk (hk.box HB.out HBO.out (by decide) (by decide)); have mHBP := Aside0.mk (hk.box HB.out HBP.out (by decide) (by decide)); have mHBA := Aside0.mk (hk.box HB.out HBA.out (by decide) (by decide)); replace HK := Aside0.mk (HK.out.trans hk); clear HB HW HBE HBO HBP HBA; have HBE := mHBE; have HBO := mHBO; have HBP := mHBP; have HBA := mHBA; have HB := Aside0.mk hB; have HW := Aside0.mk hb; clear hB hb hk mHBE mHBO mHBP mHBA; clear hxp hxa; have hxp : v3.cell? ⟨bp, 0, none⟩ = some (.func (.func 41) #[] #[.pointer (some ⟨bo, 0, none⟩)]) := (blk_cell HBP.out 0).trans rfl; have hxa : v3.cell? ⟨ba, 0, none⟩ = some (.func (.func 43) #[] #[.pointer (some ⟨be, 0, none⟩), .pointer (some ⟨bo, 0, none⟩)]) := (blk_cell HBA.out 0).trans rfl) | ((with_reducible refine gate_calleev (t := 18) rfl ?_); refine goesV1_ 18 (some 19) rfl rfl rfl Tryd.func43 (by kernel_rfl) rfl #[.int .i64 1, .pointer (some ⟨be, 0, none⟩), .pointer (some ⟨bo, 0, none⟩)] rfl (by (try simp only [List.map_toArray, List.map_cons, List.map_nil]); first | done | rfl | (simp only [List.length_drop, List.length_take]; rfl)) ?_; refine (arg_go x HX.out ad0 w0 v3 b be bo _ 1 HT.out HLD.out HB.out HW.out HBE.out HBO.out (by have := H2.out; omega) (by have := HL.out; simp only [List.length_append] at this ⊢; omega)).mono ?_; rintro e v4 ⟨rfl, hB, hb, hk⟩; refine ⟨_, rfl, ?_⟩; have mHBE := Aside0.mk (hk.box HB.out HBE.out (by decide) (by decide)); have mHBO := Aside0.mk (hk.box HB.out HBO.out (by decide) (by decide)); have mHBP := Aside0.mk (hk.box HB.out HBP.out (by decide) (by decide)); have mHBA := Aside0.mk (hk.box HB.out HBA.out (by decide) (by decide)); replace HK := Aside0.mk (HK.out.trans hk); clear HB HW HBE HBO HBP HBA; have HBE := mHBE; have HBO := mHBO; have HBP := mHBP; have HBA := mHBA; have HB := Aside0.mk hB; have HW := Aside0.mk hb; clear hB hb hk mHBE mHBO mHBP mHBA; clear hxp hxa; have hxp : v4.cell? ⟨bp, 0, none⟩ = some (.func (.func 41) #[] #[.pointer (some ⟨bo, 0, none⟩)]) := (blk_cell HBP.out 0).trans rfl; have hxa : v4.cell? ⟨ba, 0, none⟩ = some (.func (.func 43) #[] #[.pointer (some ⟨be, 0, none⟩), .pointer (some ⟨bo, 0, none⟩)]) := (blk_cell HBA.out 0).trans rfl) | ((with_reducible refine gate_calleev (t := 20) rfl ?_); refine goesV1_ 20 (some 23) rfl rfl rfl Tryd.func41 (by kernel_rfl) rfl #[.slice (some ⟨v4.heap.size, 0, none⟩) 1 1, .pointer (some ⟨bo, 0, none⟩)] rfl (by (try simp only [List.map_toArray, List.map_cons, List.map_nil]); first | done | rfl | (simp only [List.length_drop, List.length_take]; rfl)) ?_; refine (putX w0 b bo [s3] (bb s3) _ v4 (by simp [cat, bb]) (by simp) HB.out HW.out HBO.out (by have := HL.out; simp only [List.length_append] at this ⊢; omega)).mono ?_; rintro e v5 ⟨rfl, hB, hb, hk⟩; refine ⟨_, rfl, ?_⟩; have mHBE := Aside0.mk (hk.box HB.out HBE.out (by decide) (by decide)); have mHBO := Aside0.mk (hk.box HB.out HBO.out (by decide) (by decide)); have mHBP := Aside0.mk (hk.box HB.out HBP.out (by decide) (by decide)); have mHBA := Aside0.mk (hk.box HB.out HBA.out (by decide) (by decide)); replace HK := Aside0.mk (HK.out.trans hk); clear HB HW HBE HBO HBP HBA; have HBE := mHBE; have HBO := mHBO; have HBP := mHBP; have HBA := mHBA; have HB := Aside0.mk hB; have HW := Aside0.mk hb; clear hB hb hk mHBE mHBO mHBP mHBA; clear hxp hxa; have hxp : v5.cell? ⟨bp, 0, none⟩ = some (.func (.func 41) #[] #[.pointer (some ⟨bo, 0, none⟩)]) := (blk_cell HBP.out 0).trans rfl; have hxa : v5.cell? ⟨ba, 0, none⟩ = some (.func (.func 43) #[] #[.pointer (some ⟨be, 0, none⟩), .pointer (some ⟨bo, 0, none⟩)]) := (blk_cell HBA.out 0).trans rfl))
  (first | go_ret | go_end0 | refine bodyPost_ret (results_none rfl _ _ _) rfl ?_)
  exact ⟨rfl, HB.out, HW.out, HK.out⟩
set_option maxHeartbeats 8000000 in
set_option maxRecDepth 100000 in
theorem around_go (x : S36) (hx : ∀ y ∈ x.f5, TextOK y) (ad0 : Addr) (w0 w : World) (b be bo bp ba : Nat) (l : List UInt8) (s1 s2 : ByteArray) (hT : Tr w0 ad0 x) (hL : Laid w0) (hB : Bl w0 b l w) (hb : Below w0.heap.size w0 w) (hbe : w.heap[be]? = some (.cells #[.pointer (some ad0)] 59 (0, 0))) (hbo : w.heap[bo]? = some (.cells #[.pointer (some ⟨b, 0, none⟩)] 61 (0, 0))) (hbp : w.heap[bp]? = some (.cells #[.func (.func 41) #[] #[.pointer (some ⟨bo, 0, none⟩)]] 73 (0, 0))) (hba : w.heap[ba]? = some (.cells #[.func (.func 43) #[] #[.pointer (some ⟨be, 0, none⟩), .pointer (some ⟨bo, 0, none⟩)]] 74 (0, 0))) (h2 : 1 ≤ x.f5.length) (hl : (l ++ bb s1 ++ txL (x.f5.getD 0 z36) ++ bb s2).length ≤ 140737488355328) :
    Calls Tryd.prog 45 #[.string s1, .string s2, .pointer (some ⟨bp, 0, none⟩), .pointer (some ⟨ba, 0, none⟩)] w fun e w' => e = .returned (.tuple #[]) ∧ Bl w0 b (l ++ bb s1 ++ txL (x.f5.getD 0 z36) ++ bb s2) w' ∧ Below w0.heap.size w0 w' ∧ Kp b w w' := by
  have HX := Aside0.mk hx; have HT := Aside0.mk hT; have HLD := Aside0.mk hL; have HB := Aside0.mk hB; have HW := Aside0.mk hb; have HBE := Aside0.mk hbe; have HBO := Aside0.mk hbo; have HBP := Aside0.mk hbp; have HBA := Aside0.mk hba; have H2 := Aside0.mk h2; have HL := Aside0.mk hl; have HK := Aside0.mk (Kp.refl b w)
  clear hx hT hL hB hb hbe hbo hbp hba h2 hl
  have hxp : w.cell? ⟨bp, 0, none⟩ = some (.func (.func 41) #[] #[.pointer (some ⟨bo, 0, none⟩)]) := (blk_cell HBP.out 0).trans rfl
  have hxa : w.cell? ⟨ba, 0, none⟩ = some (.func (.func 43) #[] #[.pointer (some ⟨be, 0, none⟩), .pointer (some ⟨bo, 0, none⟩)]) := (blk_cell HBA.out 0).trans rfl
  go_enter Tryd.func45, Tryd.ntmps45
  go_wp2_with (first | ((with_reducible refine gate_calleev (t := 6) rfl ?_); refine goesV1_ 6 (some 9) rfl rfl rfl Tryd.func41 (by kernel_rfl) rfl #[.slice (some ⟨w.heap.size, 0, none⟩) 1 1, .pointer (some ⟨bo, 0, none⟩)] rfl (by (try simp only [List.map_toArray, List.map_cons, List.map_nil]); first | done | rfl | (simp only [List.length_drop, List.length_take]; rfl)) ?_; refine (putX w0 b bo [s1] (bb s1) _ w (by simp [cat, bb]) (by simp) HB.out HW.out HBO.out (by have := HL.out; simp only [List.length_append] at this ⊢; omega)).mono ?_; rintro e v1 ⟨rfl, hB, hb, hk⟩; refine ⟨_, rfl, ?_⟩; have mHBE := Aside0.mk (hk.box HB.out HBE.out (by decide) (by decide)); have mHBO := Aside0.mk (hk.box HB.out HBO.out (by decide) (by decide)); have mHBP := Aside0.mk (hk.box HB.out HBP.out (by decide) (by decide)); have mHBA := Aside0.mk (hk.box HB.out HBA.out (by decide) (by decide)); replace HK := Aside0.mk (HK.out.trans hk); clear HB HW HBE HBO HBP HBA; have HBE := mHBE; have HBO := mHBO; have HBP := mHBP; have HBA := mHBA; have HB := Aside0.mk hB; have HW := Aside0.mk hb; clear hB hb hk mHBE mHBO mHBP mHBA; clear hxp hxa; have hxp : v1.cell? ⟨bp, 0, none⟩ = some (.func (.func 41) #[] #[.pointer (some ⟨bo, 0, none⟩)]) := (blk_cell HBP.out 0).trans rfl; have hxa : v1.cell? ⟨ba, 0, none⟩ = some (.func (.func 43) #[] #[.pointer (some ⟨be, 0, none⟩), .pointer (some ⟨bo, 0, none⟩)]) := (blk_cell HBA.out 0).trans rfl) | ((with_reducible refine gate_calleev (t := 10) rfl ?_); refine goesV1_ 10 (some 11) rfl rfl rfl Tryd.func43 (by kernel_rfl) rfl #[.int .i64 0, .pointer (some ⟨be, 0, none⟩), .pointer (some ⟨bo, 0, none⟩)] rfl (by (try simp only [List.map_toArray, List.map_cons, List.map_nil]); first | done | rfl | (simp only [List.length_drop, List.length_take]; rfl)) ?_; refine (arg_go x HX.out ad0 w0 v1 b be bo _ 0 HT.out HLD.out HB.out HW.out HBE.out HBO.out (by have := H2.out; omega) (by have := HL.out; simp only [List.length_append] at this ⊢; omega)).mono ?_; rintro e v2 ⟨rfl, hB, hb, hk⟩; refine ⟨_, rfl, ?_⟩; have mHBE := Aside0.mk (hk.box HB.out HBE.out (by decide) (by decide)); have mHBO := Aside0.mk (hk.box HB.out HBO.out (by decide) (by decide)); have mHBP := Aside0.mk (hk.box HB.out HBP.out (by decide) (by decide)); have mHBA := Aside0.mk (hk.box HB.out HBA.out (by decide) (by decide)); replace HK := Aside0.mk (HK.out.trans hk); clear HB HW HBE HBO HBP HBA; have HBE := mHBE; have HBO := mHBO; have HBP := mHBP; have HBA := mHBA; have HB := Aside0.mk hB; have HW := Aside0.mk hb; clear hB hb hk mHBE mHBO mHBP mHBA; clear hxp hxa; have hxp : v2.cell? ⟨bp, 0, none⟩ = some (.func (.func 41) #[] #[.pointer (some ⟨bo, 0, none⟩)]) := (blk_cell HBP.out 0).trans rfl; have hxa : v2.cell? ⟨ba, 0, none⟩ = some (.func (.func 43) #[] #[.pointer (some ⟨be, 0, none⟩), .pointer (some ⟨bo, 0, none⟩)]) := (blk_cell HBA.out 0).trans rfl) | ((with_reducible refine gate_calleev (t := 12) rfl ?_); refine goesV1_ 12 (some 15) rfl rfl rfl Tryd.func41 (by kernel_rfl) rfl #[.slice (some ⟨v2.heap.size, 0, none⟩) 1 1, .pointer (some ⟨bo, 0, none⟩)] rfl (by (try simp only [List.map_toArray, List.map_cons, List.map_nil]); first | done | rfl | (simp only [List.length_drop, List.length_take]; rfl)) ?_; refine (putX w0 b bo [s2] (bb s2) _ v2 (by simp [cat, bb]) (by simp) HB.out HW.out HBO.out (by have := HL.out; simp only [List.length_append] at this ⊢; omega)).mono ?_; rintro e v3 ⟨rfl, hB, hb, hk⟩; refine ⟨_, rfl, ?_⟩; have mHBE := Aside0.mk (hk.box HB.out HBE.out (by decide) (by decide)); have mHBO := Aside0.mk (hk.box HB.out HBO.out (by decide) (by decide)); have mHBP := Aside0.mk (hk.box HB.out HBP.out (by decide) (by decide)); have mHBA := Aside0.mk (hk.box HB.out HBA.out (by decide) (by decide)); replace HK := Aside0.mk (HK.out.trans hk); clear HB HW HBE HBO HBP HBA; have HBE := mHBE; have HBO := mHBO; have HBP := mHBP; have HBA := mHBA; have HB := Aside0.mk hB; have HW := Aside0.mk hb; clear hB hb hk mHBE mHBO mHBP mHBA; clear hxp hxa; have hxp : v3.cell? ⟨bp, 0, none⟩ = some (.func (.func 41) #[] #[.pointer (some ⟨bo, 0, none⟩)]) := (blk_cell HBP.out 0).trans rfl; have hxa : v3.cell? ⟨ba, 0, none⟩ = some (.func (.func 43) #[] #[.pointer (some ⟨be, 0, none⟩), .pointer (some ⟨bo, 0, none⟩)]) := (blk_cell HBA.out 0).trans rfl))
  (first | go_ret | go_end0 | refine bodyPost_ret (results_none rfl _ _ _) rfl ?_)
  exact ⟨rfl, HB.out, HW.out, HK.out⟩
end Go.Proofs.YtgplgphchdgedaaDoor.Px
end
