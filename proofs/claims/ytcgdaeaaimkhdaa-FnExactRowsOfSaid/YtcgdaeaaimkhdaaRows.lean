/-
  NARROWER THAN 'FOR EVERY INPUT', by the rows' own cells (each row's printed sentence says how): FnExactFieldType: loops · FnExactRowType: loops · FnExactEmptyDB: loops · FnExactRowsOf: loops · FnExactCanonValue: loops · FnExactSameBag: loops · FnExactCountIn: loops · FnExactFreeVars: loops · FnExactTablesIn: loops.
  DERIVED. THE GIVEN ROWS OF THIS SEAT. 9 by the template 'for every input the law returns true; each argument reads behind the call as it read before'; 0 by the template 'total and deterministic' (their statements: YtcgdaeaaimkhdaaTotals.lean).
  GIVEN WITH THE SEED: the statements are not yours to turn. If you find one false, say at which input.
  Laid BY PROGRAM, IN A SANDBOX (cutbox-rows.mjs): the forced cells as the released guide's own fill.sh prints them over the translation 95a5fbd9e96dabc0… (all of the seat's roots in one cut). By AI agents, Wed Nov 11 2026. No macro, syntax, notation, axiom, sorry.
-/
import Derived.Test.YtcgdaeaaimkhdaaChecked
import GoSem.Claim
import GoSem.ClaimJoined
import GoSem.ClaimMapViews
import Derived.JoinedTies
import Derived.KernelRfl
namespace Go.Proofs.Ytcgdaeaaimkhdaa
/- THE CELL 'sum', in the pinned program and in every row, IS THE sha256 OF THE DUMP (.gsa) THAT YtcgdaeaaimkhdaaProg.lean LOADS. Nothing in Lean hashes anything: it is a label: what it is worth is what the hold of that sum in a sandbox is worth. -/
noncomputable def Try.pinned : Pinned := { name := "ytcgdaeaaimkhdaa", sum := "95a5fbd9e96dabc04de6de392c24423bc08fa6c2c851c9cc39e79ba343bedf31", checked := Try.checked }
namespace Rows
def none {H : Type} : Left H := { results := [], args := [] }

/-- 'laws.FnExactFieldType': WHATEVER THE INPUT: true; the input reads as it did. -/
def fnExactFieldTypeSpec : ChangeSpec := { name := "fnExactFieldType", fn := fun _ => fun
  | [d1, d2] => { results := [.lit (.bool true)], args := [d1, d2] }
  | _ => none }
def fnExactFieldTypeRow : OpenClaim := { program := "ytcgdaeaaimkhdaa", sum := "95a5fbd9e96dabc04de6de392c24423bc08fa6c2c851c9cc39e79ba343bedf31", func := "loop.example/g00587/laws.FnExactFieldType", spec := "fnExactFieldType", unfollowed := true, recurses := true, loops := true, apart := false }
def FnExactFieldTypeSaid : Prop := fnExactFieldTypeRow.holds Try.pinned (OpenSpec.ofChange fnExactFieldTypeSpec)

/-- ITS FALSE NEIGHBOUR: 'it returns false'. Refute it at one input. -/
def fnExactFieldTypeWrong : ChangeSpec := { name := "fnExactFieldType", fn := fun _ => fun
  | [d1, d2] => { results := [.lit (.bool false)], args := [d1, d2] }
  | _ => none }
def FnExactFieldTypeWrongFalsely : Prop := fnExactFieldTypeRow.holds Try.pinned (OpenSpec.ofChange fnExactFieldTypeWrong)

/-- 'laws.FnExactRowType': WHATEVER THE INPUT: true; the input reads as it did. -/
def fnExactRowTypeSpec : ChangeSpec := { name := "fnExactRowType", fn := fun _ => fun
  | [d1, d2] => { results := [.lit (.bool true)], args := [d1, d2] }
  | _ => none }
def fnExactRowTypeRow : OpenClaim := { program := "ytcgdaeaaimkhdaa", sum := "95a5fbd9e96dabc04de6de392c24423bc08fa6c2c851c9cc39e79ba343bedf31", func := "loop.example/g00587/laws.FnExactRowType", spec := "fnExactRowType", recurses := true, loops := true, apart := false }
def FnExactRowTypeSaid : Prop := fnExactRowTypeRow.holds Try.pinned (OpenSpec.ofChange fnExactRowTypeSpec)

/-- ITS FALSE NEIGHBOUR: 'it returns false'. Refute it at one input. -/
def fnExactRowTypeWrong : ChangeSpec := { name := "fnExactRowType", fn := fun _ => fun
  | [d1, d2] => { results := [.lit (.bool false)], args := [d1, d2] }
  | _ => none }
def FnExactRowTypeWrongFalsely : Prop := fnExactRowTypeRow.holds Try.pinned (OpenSpec.ofChange fnExactRowTypeWrong)

/-- 'laws.FnExactEmptyDB': WHATEVER THE INPUT: true; the input reads as it did. -/
def fnExactEmptyDBSpec : ChangeSpec := { name := "fnExactEmptyDB", fn := fun _ => fun
  | [d] => { results := [.lit (.bool true)], args := [d] }
  | _ => none }
def fnExactEmptyDBRow : OpenClaim := { program := "ytcgdaeaaimkhdaa", sum := "95a5fbd9e96dabc04de6de392c24423bc08fa6c2c851c9cc39e79ba343bedf31", func := "loop.example/g00587/laws.FnExactEmptyDB", spec := "fnExactEmptyDB", recurses := true, loops := true, apart := false }
def FnExactEmptyDBSaid : Prop := fnExactEmptyDBRow.holds Try.pinned (OpenSpec.ofChange fnExactEmptyDBSpec)

/-- ITS FALSE NEIGHBOUR: 'it returns false'. Refute it at one input. -/
def fnExactEmptyDBWrong : ChangeSpec := { name := "fnExactEmptyDB", fn := fun _ => fun
  | [d] => { results := [.lit (.bool false)], args := [d] }
  | _ => none }
def FnExactEmptyDBWrongFalsely : Prop := fnExactEmptyDBRow.holds Try.pinned (OpenSpec.ofChange fnExactEmptyDBWrong)

/-- 'laws.FnExactRowsOf': WHATEVER THE INPUT: true; the input reads as it did. -/
def fnExactRowsOfSpec : ChangeSpec := { name := "fnExactRowsOf", fn := fun _ => fun
  | [d1, d2] => { results := [.lit (.bool true)], args := [d1, d2] }
  | _ => none }
def fnExactRowsOfRow : OpenClaim := { program := "ytcgdaeaaimkhdaa", sum := "95a5fbd9e96dabc04de6de392c24423bc08fa6c2c851c9cc39e79ba343bedf31", func := "loop.example/g00587/laws.FnExactRowsOf", spec := "fnExactRowsOf", recurses := true, loops := true, apart := false }
def FnExactRowsOfSaid : Prop := fnExactRowsOfRow.holds Try.pinned (OpenSpec.ofChange fnExactRowsOfSpec)

/-- ITS FALSE NEIGHBOUR: 'it returns false'. Refute it at one input. -/
def fnExactRowsOfWrong : ChangeSpec := { name := "fnExactRowsOf", fn := fun _ => fun
  | [d1, d2] => { results := [.lit (.bool false)], args := [d1, d2] }
  | _ => none }
def FnExactRowsOfWrongFalsely : Prop := fnExactRowsOfRow.holds Try.pinned (OpenSpec.ofChange fnExactRowsOfWrong)

/-- 'laws.FnExactCanonValue': WHATEVER THE INPUT: true; the input reads as it did. -/
def fnExactCanonValueSpec : ChangeSpec := { name := "fnExactCanonValue", fn := fun _ => fun
  | [d] => { results := [.lit (.bool true)], args := [d] }
  | _ => none }
def fnExactCanonValueRow : OpenClaim := { program := "ytcgdaeaaimkhdaa", sum := "95a5fbd9e96dabc04de6de392c24423bc08fa6c2c851c9cc39e79ba343bedf31", func := "loop.example/g00587/laws.FnExactCanonValue", spec := "fnExactCanonValue", unfollowed := true, recurses := true, loops := true, apart := false }
def FnExactCanonValueSaid : Prop := fnExactCanonValueRow.holds Try.pinned (OpenSpec.ofChange fnExactCanonValueSpec)

/-- ITS FALSE NEIGHBOUR: 'it returns false'. Refute it at one input. -/
def fnExactCanonValueWrong : ChangeSpec := { name := "fnExactCanonValue", fn := fun _ => fun
  | [d] => { results := [.lit (.bool false)], args := [d] }
  | _ => none }
def FnExactCanonValueWrongFalsely : Prop := fnExactCanonValueRow.holds Try.pinned (OpenSpec.ofChange fnExactCanonValueWrong)

/-- 'laws.FnExactSameBag': WHATEVER THE INPUT: true; the input reads as it did. -/
def fnExactSameBagSpec : ChangeSpec := { name := "fnExactSameBag", fn := fun _ => fun
  | [d1, d2] => { results := [.lit (.bool true)], args := [d1, d2] }
  | _ => none }
def fnExactSameBagRow : OpenClaim := { program := "ytcgdaeaaimkhdaa", sum := "95a5fbd9e96dabc04de6de392c24423bc08fa6c2c851c9cc39e79ba343bedf31", func := "loop.example/g00587/laws.FnExactSameBag", spec := "fnExactSameBag", unfollowed := true, recurses := true, loops := true, apart := false }
def FnExactSameBagSaid : Prop := fnExactSameBagRow.holds Try.pinned (OpenSpec.ofChange fnExactSameBagSpec)

/-- ITS FALSE NEIGHBOUR: 'it returns false'. Refute it at one input. -/
def fnExactSameBagWrong : ChangeSpec := { name := "fnExactSameBag", fn := fun _ => fun
  | [d1, d2] => { results := [.lit (.bool false)], args := [d1, d2] }
  | _ => none }
def FnExactSameBagWrongFalsely : Prop := fnExactSameBagRow.holds Try.pinned (OpenSpec.ofChange fnExactSameBagWrong)

/-- 'laws.FnExactCountIn': WHATEVER THE INPUT: true; the input reads as it did. -/
def fnExactCountInSpec : ChangeSpec := { name := "fnExactCountIn", fn := fun _ => fun
  | [d1, d2] => { results := [.lit (.bool true)], args := [d1, d2] }
  | _ => none }
def fnExactCountInRow : OpenClaim := { program := "ytcgdaeaaimkhdaa", sum := "95a5fbd9e96dabc04de6de392c24423bc08fa6c2c851c9cc39e79ba343bedf31", func := "loop.example/g00587/laws.FnExactCountIn", spec := "fnExactCountIn", unfollowed := true, recurses := true, loops := true, apart := false }
def FnExactCountInSaid : Prop := fnExactCountInRow.holds Try.pinned (OpenSpec.ofChange fnExactCountInSpec)

/-- ITS FALSE NEIGHBOUR: 'it returns false'. Refute it at one input. -/
def fnExactCountInWrong : ChangeSpec := { name := "fnExactCountIn", fn := fun _ => fun
  | [d1, d2] => { results := [.lit (.bool false)], args := [d1, d2] }
  | _ => none }
def FnExactCountInWrongFalsely : Prop := fnExactCountInRow.holds Try.pinned (OpenSpec.ofChange fnExactCountInWrong)

/-- 'laws.FnExactFreeVars': WHATEVER THE INPUT: true; the input reads as it did. -/
def fnExactFreeVarsSpec : ChangeSpec := { name := "fnExactFreeVars", fn := fun _ => fun
  | [d] => { results := [.lit (.bool true)], args := [d] }
  | _ => none }
def fnExactFreeVarsRow : OpenClaim := { program := "ytcgdaeaaimkhdaa", sum := "95a5fbd9e96dabc04de6de392c24423bc08fa6c2c851c9cc39e79ba343bedf31", func := "loop.example/g00587/laws.FnExactFreeVars", spec := "fnExactFreeVars", recurses := true, loops := true, apart := false }
def FnExactFreeVarsSaid : Prop := fnExactFreeVarsRow.holds Try.pinned (OpenSpec.ofChange fnExactFreeVarsSpec)

/-- ITS FALSE NEIGHBOUR: 'it returns false'. Refute it at one input. -/
def fnExactFreeVarsWrong : ChangeSpec := { name := "fnExactFreeVars", fn := fun _ => fun
  | [d] => { results := [.lit (.bool false)], args := [d] }
  | _ => none }
def FnExactFreeVarsWrongFalsely : Prop := fnExactFreeVarsRow.holds Try.pinned (OpenSpec.ofChange fnExactFreeVarsWrong)

/-- 'laws.FnExactTablesIn': WHATEVER THE INPUT: true; the input reads as it did. -/
def fnExactTablesInSpec : ChangeSpec := { name := "fnExactTablesIn", fn := fun _ => fun
  | [d] => { results := [.lit (.bool true)], args := [d] }
  | _ => none }
def fnExactTablesInRow : OpenClaim := { program := "ytcgdaeaaimkhdaa", sum := "95a5fbd9e96dabc04de6de392c24423bc08fa6c2c851c9cc39e79ba343bedf31", func := "loop.example/g00587/laws.FnExactTablesIn", spec := "fnExactTablesIn", unfollowed := true, recurses := true, loops := true, apart := false }
def FnExactTablesInSaid : Prop := fnExactTablesInRow.holds Try.pinned (OpenSpec.ofChange fnExactTablesInSpec)

/-- ITS FALSE NEIGHBOUR: 'it returns false'. Refute it at one input. -/
def fnExactTablesInWrong : ChangeSpec := { name := "fnExactTablesIn", fn := fun _ => fun
  | [d] => { results := [.lit (.bool false)], args := [d] }
  | _ => none }
def FnExactTablesInWrongFalsely : Prop := fnExactTablesInRow.holds Try.pinned (OpenSpec.ofChange fnExactTablesInWrong)

/- THE SECOND FORM. 'bulk': how many values and letters a reading holds, each counted each time it is reached (what is shared counts as often as it is met; a slice's spare places count too). A statement '..UptoSaid' is the law's where the arguments, and the package variables that the reading takes, are together of bulk at most 1048576: NARROWER than '..Said'. Prove '..Said' where nothing that the law and all that it calls make is longer than what came in: it says more and counts as full. Else prove '..UptoSaid'. A law counts once. -/
mutual
def uptoBulk {H : Type} : DataW H → Nat
  | .lit (.string bytes) => bytes.length + 1
  | .lit _ => 1
  | .nil => 1
  | .ptr d => uptoBulk d + 1
  | .slice elems spare => uptoBulkAll elems + uptoBulkAll spare + 1
  | .agg parts => uptoBulkAll parts + 1
  | .iface _ d => uptoBulk d + 1
  | .map entries => uptoBulkEntries entries + 1
  | .held _ => 1
def uptoBulkAll {H : Type} : List (DataW H) → Nat
  | [] => 0
  | d :: r => uptoBulk d + uptoBulkAll r
def uptoBulkEntries {H : Type} : List (Lit × DataW H) → Nat
  | [] => 0
  | x :: r => uptoBulkEntry x + uptoBulkEntries r
def uptoBulkEntry {H : Type} : Lit × DataW H → Nat
  | (.string bytes, d) => bytes.length + uptoBulk d + 1
  | (_, d) => uptoBulk d + 1
 end
def uptoSmall : (H : Type) → List (DataW H) → Bool := fun _ ds => decide (uptoBulkAll ds ≤ 1048576)
def OpenSpec.upto (s : _root_.Go.ChangeSpec) : _root_.Go.OpenSpec := { _root_.Go.OpenSpec.ofChange s with cond := some uptoSmall }

/-- 'laws.FnExactFieldType', WHERE WHAT IT READS IS OF BULK AT MOST 1048576: true; the input reads as it did. -/
def fnExactFieldTypeUptoRow : OpenClaim := { program := "ytcgdaeaaimkhdaa", sum := "95a5fbd9e96dabc04de6de392c24423bc08fa6c2c851c9cc39e79ba343bedf31", func := "loop.example/g00587/laws.FnExactFieldType", spec := "fnExactFieldType", unfollowed := true, recurses := true, loops := true, apart := false, narrowed := true }
def FnExactFieldTypeUptoSaid : Prop := fnExactFieldTypeUptoRow.holds Try.pinned (OpenSpec.upto fnExactFieldTypeSpec)

/-- 'laws.FnExactRowType', WHERE WHAT IT READS IS OF BULK AT MOST 1048576: true; the input reads as it did. -/
def fnExactRowTypeUptoRow : OpenClaim := { program := "ytcgdaeaaimkhdaa", sum := "95a5fbd9e96dabc04de6de392c24423bc08fa6c2c851c9cc39e79ba343bedf31", func := "loop.example/g00587/laws.FnExactRowType", spec := "fnExactRowType", recurses := true, loops := true, apart := false, narrowed := true }
def FnExactRowTypeUptoSaid : Prop := fnExactRowTypeUptoRow.holds Try.pinned (OpenSpec.upto fnExactRowTypeSpec)

/-- 'laws.FnExactEmptyDB', WHERE WHAT IT READS IS OF BULK AT MOST 1048576: true; the input reads as it did. -/
def fnExactEmptyDBUptoRow : OpenClaim := { program := "ytcgdaeaaimkhdaa", sum := "95a5fbd9e96dabc04de6de392c24423bc08fa6c2c851c9cc39e79ba343bedf31", func := "loop.example/g00587/laws.FnExactEmptyDB", spec := "fnExactEmptyDB", recurses := true, loops := true, apart := false, narrowed := true }
def FnExactEmptyDBUptoSaid : Prop := fnExactEmptyDBUptoRow.holds Try.pinned (OpenSpec.upto fnExactEmptyDBSpec)

/-- 'laws.FnExactRowsOf', WHERE WHAT IT READS IS OF BULK AT MOST 1048576: true; the input reads as it did. -/
def fnExactRowsOfUptoRow : OpenClaim := { program := "ytcgdaeaaimkhdaa", sum := "95a5fbd9e96dabc04de6de392c24423bc08fa6c2c851c9cc39e79ba343bedf31", func := "loop.example/g00587/laws.FnExactRowsOf", spec := "fnExactRowsOf", recurses := true, loops := true, apart := false, narrowed := true }
def FnExactRowsOfUptoSaid : Prop := fnExactRowsOfUptoRow.holds Try.pinned (OpenSpec.upto fnExactRowsOfSpec)

/-- 'laws.FnExactCanonValue', WHERE WHAT IT READS IS OF BULK AT MOST 1048576: true; the input reads as it did. -/
def fnExactCanonValueUptoRow : OpenClaim := { program := "ytcgdaeaaimkhdaa", sum := "95a5fbd9e96dabc04de6de392c24423bc08fa6c2c851c9cc39e79ba343bedf31", func := "loop.example/g00587/laws.FnExactCanonValue", spec := "fnExactCanonValue", unfollowed := true, recurses := true, loops := true, apart := false, narrowed := true }
def FnExactCanonValueUptoSaid : Prop := fnExactCanonValueUptoRow.holds Try.pinned (OpenSpec.upto fnExactCanonValueSpec)

/-- 'laws.FnExactSameBag', WHERE WHAT IT READS IS OF BULK AT MOST 1048576: true; the input reads as it did. -/
def fnExactSameBagUptoRow : OpenClaim := { program := "ytcgdaeaaimkhdaa", sum := "95a5fbd9e96dabc04de6de392c24423bc08fa6c2c851c9cc39e79ba343bedf31", func := "loop.example/g00587/laws.FnExactSameBag", spec := "fnExactSameBag", unfollowed := true, recurses := true, loops := true, apart := false, narrowed := true }
def FnExactSameBagUptoSaid : Prop := fnExactSameBagUptoRow.holds Try.pinned (OpenSpec.upto fnExactSameBagSpec)

/-- 'laws.FnExactCountIn', WHERE WHAT IT READS IS OF BULK AT MOST 1048576: true; the input reads as it did. -/
def fnExactCountInUptoRow : OpenClaim := { program := "ytcgdaeaaimkhdaa", sum := "95a5fbd9e96dabc04de6de392c24423bc08fa6c2c851c9cc39e79ba343bedf31", func := "loop.example/g00587/laws.FnExactCountIn", spec := "fnExactCountIn", unfollowed := true, recurses := true, loops := true, apart := false, narrowed := true }
def FnExactCountInUptoSaid : Prop := fnExactCountInUptoRow.holds Try.pinned (OpenSpec.upto fnExactCountInSpec)

/-- 'laws.FnExactFreeVars', WHERE WHAT IT READS IS OF BULK AT MOST 1048576: true; the input reads as it did. -/
def fnExactFreeVarsUptoRow : OpenClaim := { program := "ytcgdaeaaimkhdaa", sum := "95a5fbd9e96dabc04de6de392c24423bc08fa6c2c851c9cc39e79ba343bedf31", func := "loop.example/g00587/laws.FnExactFreeVars", spec := "fnExactFreeVars", recurses := true, loops := true, apart := false, narrowed := true }
def FnExactFreeVarsUptoSaid : Prop := fnExactFreeVarsUptoRow.holds Try.pinned (OpenSpec.upto fnExactFreeVarsSpec)

/-- 'laws.FnExactTablesIn', WHERE WHAT IT READS IS OF BULK AT MOST 1048576: true; the input reads as it did. -/
def fnExactTablesInUptoRow : OpenClaim := { program := "ytcgdaeaaimkhdaa", sum := "95a5fbd9e96dabc04de6de392c24423bc08fa6c2c851c9cc39e79ba343bedf31", func := "loop.example/g00587/laws.FnExactTablesIn", spec := "fnExactTablesIn", unfollowed := true, recurses := true, loops := true, apart := false, narrowed := true }
def FnExactTablesInUptoSaid : Prop := fnExactTablesInUptoRow.holds Try.pinned (OpenSpec.upto fnExactTablesInSpec)

end Rows
end Go.Proofs.Ytcgdaeaaimkhdaa
