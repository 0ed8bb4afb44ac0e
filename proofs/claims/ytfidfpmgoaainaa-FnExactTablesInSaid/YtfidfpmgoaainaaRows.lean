/-
  NARROWER THAN 'FOR EVERY INPUT', by the rows' own cells (each row's printed sentence says how): FnExactIsClosed: loops · FnExactFreeVars: loops · FnExactTablesIn: loops.
  DERIVED. THE GIVEN ROWS OF THIS SEAT. 4 by the template 'for every input the law returns true; each argument reads behind the call as it read before'; 0 by the template 'total and deterministic' (their statements: YtfidfpmgoaainaaTotals.lean).
  GIVEN WITH THE SEED: the statements are not yours to turn. If you find one false, say at which input.
  Laid BY PROGRAM, IN A SANDBOX (cutbox-rows.mjs): the forced cells as the released guide's own fill.sh prints them over the translation a4ddd1ff6735c0fc… (all of the seat's roots in one cut). By AI agents, Wed Nov 11 2026. No macro, syntax, notation, axiom, sorry.
-/
import Derived.Test.YtfidfpmgoaainaaChecked
import GoSem.Claim
import GoSem.ClaimJoined
import GoSem.ClaimMapViews
import Derived.JoinedTies
import Derived.KernelRfl
namespace Go.Proofs.Ytfidfpmgoaainaa
/- THE CELL 'sum', in the pinned program and in every row, IS THE sha256 OF THE DUMP (.gsa) THAT YtfidfpmgoaainaaProg.lean LOADS. Nothing in Lean hashes anything: it is a label: what it is worth is what the hold of that sum in a sandbox is worth. -/
noncomputable def Try.pinned : Pinned := { name := "ytfidfpmgoaainaa", sum := "a4ddd1ff6735c0fc292af26d6149ca5723ec167ad86d4aee69430dde694935e4", checked := Try.checked }
namespace Rows
def none {H : Type} : Left H := { results := [], args := [] }

/-- 'laws.FnExactIsClosed': WHATEVER THE INPUT: true; the input reads as it did. -/
def fnExactIsClosedSpec : ChangeSpec := { name := "fnExactIsClosed", fn := fun _ => fun
  | [d] => { results := [.lit (.bool true)], args := [d] }
  | _ => none }
def fnExactIsClosedRow : OpenClaim := { program := "ytfidfpmgoaainaa", sum := "a4ddd1ff6735c0fc292af26d6149ca5723ec167ad86d4aee69430dde694935e4", func := "loop.example/g00587/laws.FnExactIsClosed", spec := "fnExactIsClosed", recurses := true, loops := true, apart := false }
def FnExactIsClosedSaid : Prop := fnExactIsClosedRow.holds Try.pinned (OpenSpec.ofChange fnExactIsClosedSpec)

/-- ITS FALSE NEIGHBOUR: 'it returns false'. Refute it at one input. -/
def fnExactIsClosedWrong : ChangeSpec := { name := "fnExactIsClosed", fn := fun _ => fun
  | [d] => { results := [.lit (.bool false)], args := [d] }
  | _ => none }
def FnExactIsClosedWrongFalsely : Prop := fnExactIsClosedRow.holds Try.pinned (OpenSpec.ofChange fnExactIsClosedWrong)

/-- 'laws.FnExactFreeVars': WHATEVER THE INPUT: true; the input reads as it did. -/
def fnExactFreeVarsSpec : ChangeSpec := { name := "fnExactFreeVars", fn := fun _ => fun
  | [d] => { results := [.lit (.bool true)], args := [d] }
  | _ => none }
def fnExactFreeVarsRow : OpenClaim := { program := "ytfidfpmgoaainaa", sum := "a4ddd1ff6735c0fc292af26d6149ca5723ec167ad86d4aee69430dde694935e4", func := "loop.example/g00587/laws.FnExactFreeVars", spec := "fnExactFreeVars", recurses := true, loops := true, apart := false }
def FnExactFreeVarsSaid : Prop := fnExactFreeVarsRow.holds Try.pinned (OpenSpec.ofChange fnExactFreeVarsSpec)

/-- ITS FALSE NEIGHBOUR: 'it returns false'. Refute it at one input. -/
def fnExactFreeVarsWrong : ChangeSpec := { name := "fnExactFreeVars", fn := fun _ => fun
  | [d] => { results := [.lit (.bool false)], args := [d] }
  | _ => none }
def FnExactFreeVarsWrongFalsely : Prop := fnExactFreeVarsRow.holds Try.pinned (OpenSpec.ofChange fnExactFreeVarsWrong)

/-- 'laws.FnExactTablesIn': WHATEVER THE INPUT: true; the input reads as it did. -/
def fnExactTablesInSpec : ChangeSpec := { name := "fnExactTablesIn", fn := fun _ => fun
  | [d] => { results := [.lit (.bool true)], args := [d] }
  | _ => none }
def fnExactTablesInRow : OpenClaim := { program := "ytfidfpmgoaainaa", sum := "a4ddd1ff6735c0fc292af26d6149ca5723ec167ad86d4aee69430dde694935e4", func := "loop.example/g00587/laws.FnExactTablesIn", spec := "fnExactTablesIn", unfollowed := true, recurses := true, loops := true, apart := false }
def FnExactTablesInSaid : Prop := fnExactTablesInRow.holds Try.pinned (OpenSpec.ofChange fnExactTablesInSpec)

/-- ITS FALSE NEIGHBOUR: 'it returns false'. Refute it at one input. -/
def fnExactTablesInWrong : ChangeSpec := { name := "fnExactTablesIn", fn := fun _ => fun
  | [d] => { results := [.lit (.bool false)], args := [d] }
  | _ => none }
def FnExactTablesInWrongFalsely : Prop := fnExactTablesInRow.holds Try.pinned (OpenSpec.ofChange fnExactTablesInWrong)

/-- 'laws.FnTerms': WHATEVER THE INPUT: true; the input reads as it did. -/
def fnTermsSpec : ChangeSpec := { name := "fnTerms", fn := fun _ => fun
  | [d] => { results := [.lit (.bool true)], args := [d] }
  | _ => none }
def fnTermsRow : OpenClaim := { program := "ytfidfpmgoaainaa", sum := "a4ddd1ff6735c0fc292af26d6149ca5723ec167ad86d4aee69430dde694935e4", func := "loop.example/g00587/laws.FnTerms", spec := "fnTerms", unfollowed := true, recurses := true, apart := false }
def FnTermsSaid : Prop := fnTermsRow.holds Try.pinned (OpenSpec.ofChange fnTermsSpec)

/-- ITS FALSE NEIGHBOUR: 'it returns false'. Refute it at one input. -/
def fnTermsWrong : ChangeSpec := { name := "fnTerms", fn := fun _ => fun
  | [d] => { results := [.lit (.bool false)], args := [d] }
  | _ => none }
def FnTermsWrongFalsely : Prop := fnTermsRow.holds Try.pinned (OpenSpec.ofChange fnTermsWrong)

/- THE SECOND FORM. 'bulk': how many values and letters a reading holds, each counted each time it is reached (what is shared counts as often as it is met; a slice's spare places count too). A statement '..UptoSaid' is the law's where the arguments, and the package variables that the reading takes, are together of bulk at most 1048576: NARROWER than '..Said'. Prove '..Said' where nothing that the law and all that it calls make is longer than what came in: it says more and counts as full. Else prove '..UptoSaid'. A law counts once. -/
mutual
def uptoBulk {H : Type} : DataW H → Nat
  | .lit (.string bytes) => bytes.length + 1
  | .lit _ => 1
  | .nil => 1
  | .ptr d => uptoBulk d + 1
  | .slice elems spare => uptoBulkAll elems + uptoBulkAll spare + 1
  | .agg parts => uptoBulkAll parts + 1
  | .iface _ d => uptoBulk d + 1
  | .map entries => uptoBulkEntries entries + 1
  | .held _ => 1
def uptoBulkAll {H : Type} : List (DataW H) → Nat
  | [] => 0
  | d :: r => uptoBulk d + uptoBulkAll r
def uptoBulkEntries {H : Type} : List (Lit × DataW H) → Nat
  | [] => 0
  | x :: r => uptoBulkEntry x + uptoBulkEntries r
def uptoBulkEntry {H : Type} : Lit × DataW H → Nat
  | (.string bytes, d) => bytes.length + uptoBulk d + 1
  | (_, d) => uptoBulk d + 1
 end
def uptoSmall : (H : Type) → List (DataW H) → Bool := fun _ ds => decide (uptoBulkAll ds ≤ 1048576)
def OpenSpec.upto (s : _root_.Go.ChangeSpec) : _root_.Go.OpenSpec := { _root_.Go.OpenSpec.ofChange s with cond := some uptoSmall }

/-- 'laws.FnExactIsClosed', WHERE WHAT IT READS IS OF BULK AT MOST 1048576: true; the input reads as it did. -/
def fnExactIsClosedUptoRow : OpenClaim := { program := "ytfidfpmgoaainaa", sum := "a4ddd1ff6735c0fc292af26d6149ca5723ec167ad86d4aee69430dde694935e4", func := "loop.example/g00587/laws.FnExactIsClosed", spec := "fnExactIsClosed", recurses := true, loops := true, apart := false, narrowed := true }
def FnExactIsClosedUptoSaid : Prop := fnExactIsClosedUptoRow.holds Try.pinned (OpenSpec.upto fnExactIsClosedSpec)

/-- 'laws.FnExactFreeVars', WHERE WHAT IT READS IS OF BULK AT MOST 1048576: true; the input reads as it did. -/
def fnExactFreeVarsUptoRow : OpenClaim := { program := "ytfidfpmgoaainaa", sum := "a4ddd1ff6735c0fc292af26d6149ca5723ec167ad86d4aee69430dde694935e4", func := "loop.example/g00587/laws.FnExactFreeVars", spec := "fnExactFreeVars", recurses := true, loops := true, apart := false, narrowed := true }
def FnExactFreeVarsUptoSaid : Prop := fnExactFreeVarsUptoRow.holds Try.pinned (OpenSpec.upto fnExactFreeVarsSpec)

/-- 'laws.FnExactTablesIn', WHERE WHAT IT READS IS OF BULK AT MOST 1048576: true; the input reads as it did. -/
def fnExactTablesInUptoRow : OpenClaim := { program := "ytfidfpmgoaainaa", sum := "a4ddd1ff6735c0fc292af26d6149ca5723ec167ad86d4aee69430dde694935e4", func := "loop.example/g00587/laws.FnExactTablesIn", spec := "fnExactTablesIn", unfollowed := true, recurses := true, loops := true, apart := false, narrowed := true }
def FnExactTablesInUptoSaid : Prop := fnExactTablesInUptoRow.holds Try.pinned (OpenSpec.upto fnExactTablesInSpec)

/-- 'laws.FnTerms', WHERE WHAT IT READS IS OF BULK AT MOST 1048576: true; the input reads as it did. -/
def fnTermsUptoRow : OpenClaim := { program := "ytfidfpmgoaainaa", sum := "a4ddd1ff6735c0fc292af26d6149ca5723ec167ad86d4aee69430dde694935e4", func := "loop.example/g00587/laws.FnTerms", spec := "fnTerms", unfollowed := true, recurses := true, apart := false, narrowed := true }
def FnTermsUptoSaid : Prop := fnTermsUptoRow.holds Try.pinned (OpenSpec.upto fnTermsSpec)

end Rows
end Go.Proofs.Ytfidfpmgoaainaa
