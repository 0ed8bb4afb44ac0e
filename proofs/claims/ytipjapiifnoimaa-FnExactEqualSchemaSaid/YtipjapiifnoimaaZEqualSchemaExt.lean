/- Words beside the print's: cells that lie in a row from an address on. No condition. -/
import Derived.Test.YtipjapiifnoimaaZEqualSchemaWWords
import Derived.Test.YtipjapiifnoimaaZEqualSchemaWMore
import Derived.Test.YtipjapiifnoimaaZEqualSchemaWLast
import Derived.Maps.Own
import Derived.Maps.OwnOps
import Derived.Maps.Views
import Derived.Laws.Cover1
namespace Go.Proofs.Ytipjapiifnoimaa.Ext
open Go.RowKit Go.Proofs.YtipjapiifnoimaaW.PrintWords
set_option linter.unusedVariables false
section
variable {P : Program} {ops : Array Oper} {Q : Exit → Act → World → Prop}
theorem bytesLess_swap : ∀ a b : List UInt8, Op.bytesLess b a = !(Op.bytesLess a b || a == b)
  | [], [] => rfl
  | [], _ :: _ => rfl
  | _ :: _, [] => rfl
  | x :: a, y :: b => by
      have ih := bytesLess_swap a b
      simp only [Op.bytesLess]
      rcases Nat.lt_trichotomy x.toNat y.toNat with h | h | h
      · have h1 : x < y := h
        have h2 : ¬ y < x := fun h3 => by have h4 : y.toNat < x.toNat := h3; omega
        have h5 : ¬ y = x := fun h3 => by subst h3; omega
        simp [h1, h2, h5]
      · have h1 : x = y := UInt8.toNat_inj.mp h
        subst h1
        have h2 : ¬ x < x := fun h3 => by have h4 : x.toNat < x.toNat := h3; omega
        simp [h2, ih]
      · have h1 : ¬ x < y := fun h3 => by have h4 : x.toNat < y.toNat := h3; omega
        have h2 : y < x := h
        have h5 : ¬ x = y := fun h3 => by subst h3; omega
        simp [h1, h2, h5]
@[go_sem high] theorem binOp_string_gtr_ (t : TypeId) (a b : ByteArray) : binOp .gtr t (.string a) (.string b) = pure (.bool (Op.bytesLess b.toList a.toList)) := by rw [binOp_string_gtr, bytesLess_swap a.toList b.toList]
@[go_sem high] theorem binOp_string_leq_ (t : TypeId) (a b : ByteArray) : binOp .leq t (.string a) (.string b) = pure (.bool (!(Op.bytesLess b.toList a.toList))) := by rw [binOp_string_leq, bytesLess_swap a.toList b.toList, Bool.not_not]
/-- The operation calls the function value in the slot t. -/
theorem gate_calleev {rest : List Oper} {o : Oper} {a : Act} {W : World} {t : Tmp} {as : Array Operand} {ts : Array TypeId} (_ho : o.op = .call { callee := .value (.tmp t), args := as, argTypes := ts }) (h : wpList P ops Q (o :: rest) a W) : wpList P ops Q (o :: rest) a W := h
/-- A call of a function value that is known, without captured variables. -/
theorem goesV_ {rest : List Oper} {oi : Oper} {a : Act} {w : World} (t : Tmp) (N : Option Tmp) (hd : oi.dst = N) (hg : oi.guard = none) {f : FuncId} (hv : a.eval (.tmp t) = .func (.func f) #[] #[]) {fn : Func} {as : Array Operand} {ts : Array TypeId} (hf : P.funcs[f]? = some fn) (hname : (fn.name == "runtime.NumGoroutine") = false) (hb : fn.body.isSome = true) (args : Array Value)
    (hop : oi.op = .call { callee := .value (.tmp t), args := as, argTypes := ts }) (hargs : as.map a.eval = args)
    (h : Calls P f args w fun e w' => ∃ v, e = .returned v ∧ wpList P ops Q rest (a.put N v) w') : wpList P ops Q (oi :: rest) a w := by
  refine wpList_plain hg fun K hK => ?_
  have he := Go.Proofs.YtipjapiifnoimaaW.PrintLast.enters_ hf hname hb args w
  have hrun : (execOp a.eval oi).run P w = .ok (.enter f args) w := by
    unfold execOp
    simp [hop, resolve, Deferred.ofValue, invoke, hv, hargs, he]
  unfold Oper.wp
  rw [hrun, Oper.upon_enter]
  refine h.mono fun e w'' hh => ?_
  obtain ⟨v, rfl, hk⟩ := hh
  subst hd
  exact hK _ _ hk
end
def Cells' (w : World) (b o : Nat) : Nat → List Value → Prop
  | _, [] => True
  | n, c :: cs => w.cell? ⟨b, o + n, none⟩ = some c ∧ Cells' w b o (n + 1) cs
/-- From the address a on lie these cells. -/
def Cells (w : World) (a : Addr) : List Value → Prop
  | [] => True
  | c :: cs => w.cell? a = some c ∧ Cells' w a.block a.off 1 cs
theorem Cells'.imp {w w1 : World} {b o : Nat} (h : ∀ a v, w.cell? a = some v → w1.cell? a = some v) : ∀ {n : Nat} {cs : List Value}, Cells' w b o n cs → Cells' w1 b o n cs
  | _, [], _ => trivial
  | _, _ :: _, ⟨h1, h2⟩ => ⟨h _ _ h1, Cells'.imp h h2⟩
theorem Cells.imp {w w1 : World} {a : Addr} (h : ∀ a v, w.cell? a = some v → w1.cell? a = some v) : ∀ {cs : List Value}, Cells w a cs → Cells w1 a cs
  | [], _ => trivial
  | _ :: _, ⟨h1, h2⟩ => ⟨h _ _ h1, Cells'.imp h h2⟩
theorem Cells'_take {w : World} {b o : Nat} : ∀ {k n : Nat} {cs : List Value}, Cells' w b o n cs → Cells' w b o n (cs.take k)
  | 0, _, _, _ => trivial
  | k + 1, _, [], _ => trivial
  | k + 1, _, c :: cs, ⟨h1, h2⟩ => ⟨h1, Cells'_take h2⟩
theorem Cells.first {w : World} {a : Addr} {cs ds : List Value} (h : Cells w a cs) (n : Nat) (e : cs.take n = ds) : Cells w a ds := by
  subst e
  cases cs with
  | nil => simp [Cells]
  | cons c cs =>
    cases n with
    | zero => trivial
    | succ n => exact ⟨h.1, Cells'_take h.2⟩
/-- Block b is a map of at most n entries, from int (type k) to int (type e), that reads as f. -/
def IMap (P : Program) (k e : TypeId) (W : World) (b n : Nat) (f : Int → Int) : Prop :=
  ∃ D : DataW Unit, W.ownsMap P k (plainElem P e) b n D ∧ Maps.IsMap D ∧ ∀ c : Int, D.atKey (.int .i64 c) (.lit (.int .i64 0)) = .lit (.int .i64 (f c))
theorem IMap.kept {P : Program} {k e : TypeId} {W W' : World} {b n : Nat} {f : Int → Int} (h : IMap P k e W b n f) {row : Option Nat} (hg : W.grownBy W' row) (hne : some b ≠ row) : IMap P k e W' b n f := by
  obtain ⟨D, h1, h2, h3⟩ := h
  exact ⟨D, h1.kept hg hne, h2, h3⟩
theorem IMap.alloc {P : Program} {k e : TypeId} {W : World} {b n : Nat} {f : Int → Int} (h : IMap P k e W b n f) (o : Obj) : IMap P k e (W.alloc o) b n f := h.kept (World.grownBy_alloc W o none) (by simp)
theorem IMap.drewN {P : Program} {k e : TypeId} {W : World} {b n : Nat} {f : Int → Int} (h : IMap P k e W b n f) (m : Nat) : IMap P k e (W.drewN m) b n f := h
theorem IMap.drew {P : Program} {k e : TypeId} {W : World} {b n : Nat} {f : Int → Int} (h : IMap P k e W b n f) : IMap P k e W.drew b n f := h
section
variable {P : Program} {ops : Array Oper} {Q : Exit → Act → World → Prop}
end
end Go.Proofs.Ytipjapiifnoimaa.Ext
