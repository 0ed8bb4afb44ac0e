/-
  NARROWER THAN 'FOR EVERY INPUT', by the rows' own cells (each row's printed sentence says how): FnExactEqualTerm: loops · FnExactHasType: loops · FnExactIsCtx: loops · FnExactIsSchema: loops · FnExactIsValidTerm: loops · FnExactIsDB: loops · FnExactEqualQuery: loops · FnExactCountComps: loops · FnExactDepthOfQuery: loops · FnExactIsClosed: loops · FnExactFreeVars: loops · FnExactTablesIn: loops.
  DERIVED. THE GIVEN ROWS OF THIS SEAT. 12 by the template 'for every input the law returns true; each argument reads behind the call as it read before'; 0 by the template 'total and deterministic' (their statements: YtppgalehaiagaaaTotals.lean).
  GIVEN WITH THE SEED: the statements are not yours to turn. If you find one false, say at which input.
  Laid BY PROGRAM, IN A SANDBOX (cutbox-rows.mjs): the forced cells as the released guide's own fill.sh prints them over the translation d78bf1f64bd796bf… (all of the seat's roots in one cut). By AI agents, Wed Nov 11 2026. No macro, syntax, notation, axiom, sorry.
-/
import Derived.Test.YtppgalehaiagaaaChecked
import GoSem.Claim
import GoSem.ClaimJoined
import GoSem.ClaimMapViews
import Derived.JoinedTies
import Derived.KernelRfl
namespace Go.Proofs.Ytppgalehaiagaaa
/- THE CELL 'sum', in the pinned program and in every row, IS THE sha256 OF THE DUMP (.gsa) THAT YtppgalehaiagaaaProg.lean LOADS. Nothing in Lean hashes anything: it is a label: what it is worth is what the hold of that sum in a sandbox is worth. -/
noncomputable def Try.pinned : Pinned := { name := "ytppgalehaiagaaa", sum := "d78bf1f64bd796bf68061d15bad7bc3607df19fc5b427129459623430b60e83e", checked := Try.checked }
namespace Rows
def none {H : Type} : Left H := { results := [], args := [] }

/-- 'laws.FnExactEqualTerm': WHATEVER THE INPUT: true; the input reads as it did. -/
def fnExactEqualTermSpec : ChangeSpec := { name := "fnExactEqualTerm", fn := fun _ => fun
  | [d1, d2] => { results := [.lit (.bool true)], args := [d1, d2] }
  | _ => none }
def fnExactEqualTermRow : OpenClaim := { program := "ytppgalehaiagaaa", sum := "d78bf1f64bd796bf68061d15bad7bc3607df19fc5b427129459623430b60e83e", func := "loop.example/g00587/laws.FnExactEqualTerm", spec := "fnExactEqualTerm", unfollowed := true, recurses := true, loops := true, apart := false }
def FnExactEqualTermSaid : Prop := fnExactEqualTermRow.holds Try.pinned (OpenSpec.ofChange fnExactEqualTermSpec)

/-- ITS FALSE NEIGHBOUR: 'it returns false'. Refute it at one input. -/
def fnExactEqualTermWrong : ChangeSpec := { name := "fnExactEqualTerm", fn := fun _ => fun
  | [d1, d2] => { results := [.lit (.bool false)], args := [d1, d2] }
  | _ => none }
def FnExactEqualTermWrongFalsely : Prop := fnExactEqualTermRow.holds Try.pinned (OpenSpec.ofChange fnExactEqualTermWrong)

/-- 'laws.FnExactHasType': WHATEVER THE INPUT: true; the input reads as it did. -/
def fnExactHasTypeSpec : ChangeSpec := { name := "fnExactHasType", fn := fun _ => fun
  | [d1, d2] => { results := [.lit (.bool true)], args := [d1, d2] }
  | _ => none }
def fnExactHasTypeRow : OpenClaim := { program := "ytppgalehaiagaaa", sum := "d78bf1f64bd796bf68061d15bad7bc3607df19fc5b427129459623430b60e83e", func := "loop.example/g00587/laws.FnExactHasType", spec := "fnExactHasType", unfollowed := true, recurses := true, loops := true, apart := false }
def FnExactHasTypeSaid : Prop := fnExactHasTypeRow.holds Try.pinned (OpenSpec.ofChange fnExactHasTypeSpec)

/-- ITS FALSE NEIGHBOUR: 'it returns false'. Refute it at one input. -/
def fnExactHasTypeWrong : ChangeSpec := { name := "fnExactHasType", fn := fun _ => fun
  | [d1, d2] => { results := [.lit (.bool false)], args := [d1, d2] }
  | _ => none }
def FnExactHasTypeWrongFalsely : Prop := fnExactHasTypeRow.holds Try.pinned (OpenSpec.ofChange fnExactHasTypeWrong)

/-- 'laws.FnExactIsCtx': WHATEVER THE INPUT: true; the input reads as it did. -/
def fnExactIsCtxSpec : ChangeSpec := { name := "fnExactIsCtx", fn := fun _ => fun
  | [d] => { results := [.lit (.bool true)], args := [d] }
  | _ => none }
def fnExactIsCtxRow : OpenClaim := { program := "ytppgalehaiagaaa", sum := "d78bf1f64bd796bf68061d15bad7bc3607df19fc5b427129459623430b60e83e", func := "loop.example/g00587/laws.FnExactIsCtx", spec := "fnExactIsCtx", unfollowed := true, recurses := true, loops := true, apart := false }
def FnExactIsCtxSaid : Prop := fnExactIsCtxRow.holds Try.pinned (OpenSpec.ofChange fnExactIsCtxSpec)

/-- ITS FALSE NEIGHBOUR: 'it returns false'. Refute it at one input. -/
def fnExactIsCtxWrong : ChangeSpec := { name := "fnExactIsCtx", fn := fun _ => fun
  | [d] => { results := [.lit (.bool false)], args := [d] }
  | _ => none }
def FnExactIsCtxWrongFalsely : Prop := fnExactIsCtxRow.holds Try.pinned (OpenSpec.ofChange fnExactIsCtxWrong)

/-- 'laws.FnExactIsSchema': WHATEVER THE INPUT: true; the input reads as it did. -/
def fnExactIsSchemaSpec : ChangeSpec := { name := "fnExactIsSchema", fn := fun _ => fun
  | [d] => { results := [.lit (.bool true)], args := [d] }
  | _ => none }
def fnExactIsSchemaRow : OpenClaim := { program := "ytppgalehaiagaaa", sum := "d78bf1f64bd796bf68061d15bad7bc3607df19fc5b427129459623430b60e83e", func := "loop.example/g00587/laws.FnExactIsSchema", spec := "fnExactIsSchema", unfollowed := true, recurses := true, loops := true, apart := false }
def FnExactIsSchemaSaid : Prop := fnExactIsSchemaRow.holds Try.pinned (OpenSpec.ofChange fnExactIsSchemaSpec)

/-- ITS FALSE NEIGHBOUR: 'it returns false'. Refute it at one input. -/
def fnExactIsSchemaWrong : ChangeSpec := { name := "fnExactIsSchema", fn := fun _ => fun
  | [d] => { results := [.lit (.bool false)], args := [d] }
  | _ => none }
def FnExactIsSchemaWrongFalsely : Prop := fnExactIsSchemaRow.holds Try.pinned (OpenSpec.ofChange fnExactIsSchemaWrong)

/-- 'laws.FnExactIsValidTerm': WHATEVER THE INPUT: true; the input reads as it did. -/
def fnExactIsValidTermSpec : ChangeSpec := { name := "fnExactIsValidTerm", fn := fun _ => fun
  | [d] => { results := [.lit (.bool true)], args := [d] }
  | _ => none }
def fnExactIsValidTermRow : OpenClaim := { program := "ytppgalehaiagaaa", sum := "d78bf1f64bd796bf68061d15bad7bc3607df19fc5b427129459623430b60e83e", func := "loop.example/g00587/laws.FnExactIsValidTerm", spec := "fnExactIsValidTerm", unfollowed := true, recurses := true, loops := true, apart := false }
def FnExactIsValidTermSaid : Prop := fnExactIsValidTermRow.holds Try.pinned (OpenSpec.ofChange fnExactIsValidTermSpec)

/-- ITS FALSE NEIGHBOUR: 'it returns false'. Refute it at one input. -/
def fnExactIsValidTermWrong : ChangeSpec := { name := "fnExactIsValidTerm", fn := fun _ => fun
  | [d] => { results := [.lit (.bool false)], args := [d] }
  | _ => none }
def FnExactIsValidTermWrongFalsely : Prop := fnExactIsValidTermRow.holds Try.pinned (OpenSpec.ofChange fnExactIsValidTermWrong)

/-- 'laws.FnExactIsDB': WHATEVER THE INPUT: true; the input reads as it did. -/
def fnExactIsDBSpec : ChangeSpec := { name := "fnExactIsDB", fn := fun _ => fun
  | [d1, d2] => { results := [.lit (.bool true)], args := [d1, d2] }
  | _ => none }
def fnExactIsDBRow : OpenClaim := { program := "ytppgalehaiagaaa", sum := "d78bf1f64bd796bf68061d15bad7bc3607df19fc5b427129459623430b60e83e", func := "loop.example/g00587/laws.FnExactIsDB", spec := "fnExactIsDB", unfollowed := true, recurses := true, loops := true, apart := false }
def FnExactIsDBSaid : Prop := fnExactIsDBRow.holds Try.pinned (OpenSpec.ofChange fnExactIsDBSpec)

/-- ITS FALSE NEIGHBOUR: 'it returns false'. Refute it at one input. -/
def fnExactIsDBWrong : ChangeSpec := { name := "fnExactIsDB", fn := fun _ => fun
  | [d1, d2] => { results := [.lit (.bool false)], args := [d1, d2] }
  | _ => none }
def FnExactIsDBWrongFalsely : Prop := fnExactIsDBRow.holds Try.pinned (OpenSpec.ofChange fnExactIsDBWrong)

/-- 'laws.FnExactEqualQuery': WHATEVER THE INPUT: true; the input reads as it did. -/
def fnExactEqualQuerySpec : ChangeSpec := { name := "fnExactEqualQuery", fn := fun _ => fun
  | [d1, d2] => { results := [.lit (.bool true)], args := [d1, d2] }
  | _ => none }
def fnExactEqualQueryRow : OpenClaim := { program := "ytppgalehaiagaaa", sum := "d78bf1f64bd796bf68061d15bad7bc3607df19fc5b427129459623430b60e83e", func := "loop.example/g00587/laws.FnExactEqualQuery", spec := "fnExactEqualQuery", unfollowed := true, recurses := true, loops := true, apart := false }
def FnExactEqualQuerySaid : Prop := fnExactEqualQueryRow.holds Try.pinned (OpenSpec.ofChange fnExactEqualQuerySpec)

/-- ITS FALSE NEIGHBOUR: 'it returns false'. Refute it at one input. -/
def fnExactEqualQueryWrong : ChangeSpec := { name := "fnExactEqualQuery", fn := fun _ => fun
  | [d1, d2] => { results := [.lit (.bool false)], args := [d1, d2] }
  | _ => none }
def FnExactEqualQueryWrongFalsely : Prop := fnExactEqualQueryRow.holds Try.pinned (OpenSpec.ofChange fnExactEqualQueryWrong)

/-- 'laws.FnExactCountComps': WHATEVER THE INPUT: true; the input reads as it did. -/
def fnExactCountCompsSpec : ChangeSpec := { name := "fnExactCountComps", fn := fun _ => fun
  | [d] => { results := [.lit (.bool true)], args := [d] }
  | _ => none }
def fnExactCountCompsRow : OpenClaim := { program := "ytppgalehaiagaaa", sum := "d78bf1f64bd796bf68061d15bad7bc3607df19fc5b427129459623430b60e83e", func := "loop.example/g00587/laws.FnExactCountComps", spec := "fnExactCountComps", unfollowed := true, recurses := true, loops := true, apart := false }
def FnExactCountCompsSaid : Prop := fnExactCountCompsRow.holds Try.pinned (OpenSpec.ofChange fnExactCountCompsSpec)

/-- ITS FALSE NEIGHBOUR: 'it returns false'. Refute it at one input. -/
def fnExactCountCompsWrong : ChangeSpec := { name := "fnExactCountComps", fn := fun _ => fun
  | [d] => { results := [.lit (.bool false)], args := [d] }
  | _ => none }
def FnExactCountCompsWrongFalsely : Prop := fnExactCountCompsRow.holds Try.pinned (OpenSpec.ofChange fnExactCountCompsWrong)

/-- 'laws.FnExactDepthOfQuery': WHATEVER THE INPUT: true; the input reads as it did. -/
def fnExactDepthOfQuerySpec : ChangeSpec := { name := "fnExactDepthOfQuery", fn := fun _ => fun
  | [d] => { results := [.lit (.bool true)], args := [d] }
  | _ => none }
def fnExactDepthOfQueryRow : OpenClaim := { program := "ytppgalehaiagaaa", sum := "d78bf1f64bd796bf68061d15bad7bc3607df19fc5b427129459623430b60e83e", func := "loop.example/g00587/laws.FnExactDepthOfQuery", spec := "fnExactDepthOfQuery", unfollowed := true, recurses := true, loops := true, apart := false }
def FnExactDepthOfQuerySaid : Prop := fnExactDepthOfQueryRow.holds Try.pinned (OpenSpec.ofChange fnExactDepthOfQuerySpec)

/-- ITS FALSE NEIGHBOUR: 'it returns false'. Refute it at one input. -/
def fnExactDepthOfQueryWrong : ChangeSpec := { name := "fnExactDepthOfQuery", fn := fun _ => fun
  | [d] => { results := [.lit (.bool false)], args := [d] }
  | _ => none }
def FnExactDepthOfQueryWrongFalsely : Prop := fnExactDepthOfQueryRow.holds Try.pinned (OpenSpec.ofChange fnExactDepthOfQueryWrong)

/-- 'laws.FnExactIsClosed': WHATEVER THE INPUT: true; the input reads as it did. -/
def fnExactIsClosedSpec : ChangeSpec := { name := "fnExactIsClosed", fn := fun _ => fun
  | [d] => { results := [.lit (.bool true)], args := [d] }
  | _ => none }
def fnExactIsClosedRow : OpenClaim := { program := "ytppgalehaiagaaa", sum := "d78bf1f64bd796bf68061d15bad7bc3607df19fc5b427129459623430b60e83e", func := "loop.example/g00587/laws.FnExactIsClosed", spec := "fnExactIsClosed", recurses := true, loops := true, apart := false }
def FnExactIsClosedSaid : Prop := fnExactIsClosedRow.holds Try.pinned (OpenSpec.ofChange fnExactIsClosedSpec)

/-- ITS FALSE NEIGHBOUR: 'it returns false'. Refute it at one input. -/
def fnExactIsClosedWrong : ChangeSpec := { name := "fnExactIsClosed", fn := fun _ => fun
  | [d] => { results := [.lit (.bool false)], args := [d] }
  | _ => none }
def FnExactIsClosedWrongFalsely : Prop := fnExactIsClosedRow.holds Try.pinned (OpenSpec.ofChange fnExactIsClosedWrong)

/-- 'laws.FnExactFreeVars': WHATEVER THE INPUT: true; the input reads as it did. -/
def fnExactFreeVarsSpec : ChangeSpec := { name := "fnExactFreeVars", fn := fun _ => fun
  | [d] => { results := [.lit (.bool true)], args := [d] }
  | _ => none }
def fnExactFreeVarsRow : OpenClaim := { program := "ytppgalehaiagaaa", sum := "d78bf1f64bd796bf68061d15bad7bc3607df19fc5b427129459623430b60e83e", func := "loop.example/g00587/laws.FnExactFreeVars", spec := "fnExactFreeVars", recurses := true, loops := true, apart := false }
def FnExactFreeVarsSaid : Prop := fnExactFreeVarsRow.holds Try.pinned (OpenSpec.ofChange fnExactFreeVarsSpec)

/-- ITS FALSE NEIGHBOUR: 'it returns false'. Refute it at one input. -/
def fnExactFreeVarsWrong : ChangeSpec := { name := "fnExactFreeVars", fn := fun _ => fun
  | [d] => { results := [.lit (.bool false)], args := [d] }
  | _ => none }
def FnExactFreeVarsWrongFalsely : Prop := fnExactFreeVarsRow.holds Try.pinned (OpenSpec.ofChange fnExactFreeVarsWrong)

/-- 'laws.FnExactTablesIn': WHATEVER THE INPUT: true; the input reads as it did. -/
def fnExactTablesInSpec : ChangeSpec := { name := "fnExactTablesIn", fn := fun _ => fun
  | [d] => { results := [.lit (.bool true)], args := [d] }
  | _ => none }
def fnExactTablesInRow : OpenClaim := { program := "ytppgalehaiagaaa", sum := "d78bf1f64bd796bf68061d15bad7bc3607df19fc5b427129459623430b60e83e", func := "loop.example/g00587/laws.FnExactTablesIn", spec := "fnExactTablesIn", unfollowed := true, recurses := true, loops := true, apart := false }
def FnExactTablesInSaid : Prop := fnExactTablesInRow.holds Try.pinned (OpenSpec.ofChange fnExactTablesInSpec)

/-- ITS FALSE NEIGHBOUR: 'it returns false'. Refute it at one input. -/
def fnExactTablesInWrong : ChangeSpec := { name := "fnExactTablesIn", fn := fun _ => fun
  | [d] => { results := [.lit (.bool false)], args := [d] }
  | _ => none }
def FnExactTablesInWrongFalsely : Prop := fnExactTablesInRow.holds Try.pinned (OpenSpec.ofChange fnExactTablesInWrong)

/- THE SECOND FORM. 'bulk': how many values and letters a reading holds, each counted each time it is reached (what is shared counts as often as it is met; a slice's spare places count too). A statement '..UptoSaid' is the law's where the arguments, and the package variables that the reading takes, are together of bulk at most 1048576: NARROWER than '..Said'. Prove '..Said' where nothing that the law and all that it calls make is longer than what came in: it says more and counts as full. Else prove '..UptoSaid'. A law counts once. -/
mutual
def uptoBulk {H : Type} : DataW H → Nat
  | .lit (.string bytes) => bytes.length + 1
  | .lit _ => 1
  | .nil => 1
  | .ptr d => uptoBulk d + 1
  | .slice elems spare => uptoBulkAll elems + uptoBulkAll spare + 1
  | .agg parts => uptoBulkAll parts + 1
  | .iface _ d => uptoBulk d + 1
  | .map entries => uptoBulkEntries entries + 1
  | .held _ => 1
def uptoBulkAll {H : Type} : List (DataW H) → Nat
  | [] => 0
  | d :: r => uptoBulk d + uptoBulkAll r
def uptoBulkEntries {H : Type} : List (Lit × DataW H) → Nat
  | [] => 0
  | x :: r => uptoBulkEntry x + uptoBulkEntries r
def uptoBulkEntry {H : Type} : Lit × DataW H → Nat
  | (.string bytes, d) => bytes.length + uptoBulk d + 1
  | (_, d) => uptoBulk d + 1
 end
def uptoSmall : (H : Type) → List (DataW H) → Bool := fun _ ds => decide (uptoBulkAll ds ≤ 1048576)
def OpenSpec.upto (s : _root_.Go.ChangeSpec) : _root_.Go.OpenSpec := { _root_.Go.OpenSpec.ofChange s with cond := some uptoSmall }

/-- 'laws.FnExactEqualTerm', WHERE WHAT IT READS IS OF BULK AT MOST 1048576: true; the input reads as it did. -/
def fnExactEqualTermUptoRow : OpenClaim := { program := "ytppgalehaiagaaa", sum := "d78bf1f64bd796bf68061d15bad7bc3607df19fc5b427129459623430b60e83e", func := "loop.example/g00587/laws.FnExactEqualTerm", spec := "fnExactEqualTerm", unfollowed := true, recurses := true, loops := true, apart := false, narrowed := true }
def FnExactEqualTermUptoSaid : Prop := fnExactEqualTermUptoRow.holds Try.pinned (OpenSpec.upto fnExactEqualTermSpec)

/-- 'laws.FnExactHasType', WHERE WHAT IT READS IS OF BULK AT MOST 1048576: true; the input reads as it did. -/
def fnExactHasTypeUptoRow : OpenClaim := { program := "ytppgalehaiagaaa", sum := "d78bf1f64bd796bf68061d15bad7bc3607df19fc5b427129459623430b60e83e", func := "loop.example/g00587/laws.FnExactHasType", spec := "fnExactHasType", unfollowed := true, recurses := true, loops := true, apart := false, narrowed := true }
def FnExactHasTypeUptoSaid : Prop := fnExactHasTypeUptoRow.holds Try.pinned (OpenSpec.upto fnExactHasTypeSpec)

/-- 'laws.FnExactIsCtx', WHERE WHAT IT READS IS OF BULK AT MOST 1048576: true; the input reads as it did. -/
def fnExactIsCtxUptoRow : OpenClaim := { program := "ytppgalehaiagaaa", sum := "d78bf1f64bd796bf68061d15bad7bc3607df19fc5b427129459623430b60e83e", func := "loop.example/g00587/laws.FnExactIsCtx", spec := "fnExactIsCtx", unfollowed := true, recurses := true, loops := true, apart := false, narrowed := true }
def FnExactIsCtxUptoSaid : Prop := fnExactIsCtxUptoRow.holds Try.pinned (OpenSpec.upto fnExactIsCtxSpec)

/-- 'laws.FnExactIsSchema', WHERE WHAT IT READS IS OF BULK AT MOST 1048576: true; the input reads as it did. -/
def fnExactIsSchemaUptoRow : OpenClaim := { program := "ytppgalehaiagaaa", sum := "d78bf1f64bd796bf68061d15bad7bc3607df19fc5b427129459623430b60e83e", func := "loop.example/g00587/laws.FnExactIsSchema", spec := "fnExactIsSchema", unfollowed := true, recurses := true, loops := true, apart := false, narrowed := true }
def FnExactIsSchemaUptoSaid : Prop := fnExactIsSchemaUptoRow.holds Try.pinned (OpenSpec.upto fnExactIsSchemaSpec)

/-- 'laws.FnExactIsValidTerm', WHERE WHAT IT READS IS OF BULK AT MOST 1048576: true; the input reads as it did. -/
def fnExactIsValidTermUptoRow : OpenClaim := { program := "ytppgalehaiagaaa", sum := "d78bf1f64bd796bf68061d15bad7bc3607df19fc5b427129459623430b60e83e", func := "loop.example/g00587/laws.FnExactIsValidTerm", spec := "fnExactIsValidTerm", unfollowed := true, recurses := true, loops := true, apart := false, narrowed := true }
def FnExactIsValidTermUptoSaid : Prop := fnExactIsValidTermUptoRow.holds Try.pinned (OpenSpec.upto fnExactIsValidTermSpec)

/-- 'laws.FnExactIsDB', WHERE WHAT IT READS IS OF BULK AT MOST 1048576: true; the input reads as it did. -/
def fnExactIsDBUptoRow : OpenClaim := { program := "ytppgalehaiagaaa", sum := "d78bf1f64bd796bf68061d15bad7bc3607df19fc5b427129459623430b60e83e", func := "loop.example/g00587/laws.FnExactIsDB", spec := "fnExactIsDB", unfollowed := true, recurses := true, loops := true, apart := false, narrowed := true }
def FnExactIsDBUptoSaid : Prop := fnExactIsDBUptoRow.holds Try.pinned (OpenSpec.upto fnExactIsDBSpec)

/-- 'laws.FnExactEqualQuery', WHERE WHAT IT READS IS OF BULK AT MOST 1048576: true; the input reads as it did. -/
def fnExactEqualQueryUptoRow : OpenClaim := { program := "ytppgalehaiagaaa", sum := "d78bf1f64bd796bf68061d15bad7bc3607df19fc5b427129459623430b60e83e", func := "loop.example/g00587/laws.FnExactEqualQuery", spec := "fnExactEqualQuery", unfollowed := true, recurses := true, loops := true, apart := false, narrowed := true }
def FnExactEqualQueryUptoSaid : Prop := fnExactEqualQueryUptoRow.holds Try.pinned (OpenSpec.upto fnExactEqualQuerySpec)

/-- 'laws.FnExactCountComps', WHERE WHAT IT READS IS OF BULK AT MOST 1048576: true; the input reads as it did. -/
def fnExactCountCompsUptoRow : OpenClaim := { program := "ytppgalehaiagaaa", sum := "d78bf1f64bd796bf68061d15bad7bc3607df19fc5b427129459623430b60e83e", func := "loop.example/g00587/laws.FnExactCountComps", spec := "fnExactCountComps", unfollowed := true, recurses := true, loops := true, apart := false, narrowed := true }
def FnExactCountCompsUptoSaid : Prop := fnExactCountCompsUptoRow.holds Try.pinned (OpenSpec.upto fnExactCountCompsSpec)

/-- 'laws.FnExactDepthOfQuery', WHERE WHAT IT READS IS OF BULK AT MOST 1048576: true; the input reads as it did. -/
def fnExactDepthOfQueryUptoRow : OpenClaim := { program := "ytppgalehaiagaaa", sum := "d78bf1f64bd796bf68061d15bad7bc3607df19fc5b427129459623430b60e83e", func := "loop.example/g00587/laws.FnExactDepthOfQuery", spec := "fnExactDepthOfQuery", unfollowed := true, recurses := true, loops := true, apart := false, narrowed := true }
def FnExactDepthOfQueryUptoSaid : Prop := fnExactDepthOfQueryUptoRow.holds Try.pinned (OpenSpec.upto fnExactDepthOfQuerySpec)

/-- 'laws.FnExactIsClosed', WHERE WHAT IT READS IS OF BULK AT MOST 1048576: true; the input reads as it did. -/
def fnExactIsClosedUptoRow : OpenClaim := { program := "ytppgalehaiagaaa", sum := "d78bf1f64bd796bf68061d15bad7bc3607df19fc5b427129459623430b60e83e", func := "loop.example/g00587/laws.FnExactIsClosed", spec := "fnExactIsClosed", recurses := true, loops := true, apart := false, narrowed := true }
def FnExactIsClosedUptoSaid : Prop := fnExactIsClosedUptoRow.holds Try.pinned (OpenSpec.upto fnExactIsClosedSpec)

/-- 'laws.FnExactFreeVars', WHERE WHAT IT READS IS OF BULK AT MOST 1048576: true; the input reads as it did. -/
def fnExactFreeVarsUptoRow : OpenClaim := { program := "ytppgalehaiagaaa", sum := "d78bf1f64bd796bf68061d15bad7bc3607df19fc5b427129459623430b60e83e", func := "loop.example/g00587/laws.FnExactFreeVars", spec := "fnExactFreeVars", recurses := true, loops := true, apart := false, narrowed := true }
def FnExactFreeVarsUptoSaid : Prop := fnExactFreeVarsUptoRow.holds Try.pinned (OpenSpec.upto fnExactFreeVarsSpec)

/-- 'laws.FnExactTablesIn', WHERE WHAT IT READS IS OF BULK AT MOST 1048576: true; the input reads as it did. -/
def fnExactTablesInUptoRow : OpenClaim := { program := "ytppgalehaiagaaa", sum := "d78bf1f64bd796bf68061d15bad7bc3607df19fc5b427129459623430b60e83e", func := "loop.example/g00587/laws.FnExactTablesIn", spec := "fnExactTablesIn", unfollowed := true, recurses := true, loops := true, apart := false, narrowed := true }
def FnExactTablesInUptoSaid : Prop := fnExactTablesInUptoRow.holds Try.pinned (OpenSpec.upto fnExactTablesInSpec)

end Rows
end Go.Proofs.Ytppgalehaiagaaa
