/-
  NARROWER THAN 'FOR EVERY INPUT', by the rows' own cells (each row's printed sentence says how): FnExactDepthOfType: loops · FnExactCountBags: loops · FnExactEqualType: loops · FnExactCompareValues: loops · FnExactIsValue: loops · FnExactEqualSchema: loops · FnExactIsValidType: loops · FnExactIsData: loops · FnExactIsRow: loops · FnExactEqualDB: loops.
  DERIVED. THE GIVEN ROWS OF THIS SEAT. 10 by the template 'for every input the law returns true; each argument reads behind the call as it read before'; 0 by the template 'total and deterministic' (their statements: YtipjapiifnoimaaTotals.lean).
  GIVEN WITH THE SEED: the statements are not yours to turn. If you find one false, say at which input.
  Laid BY PROGRAM, IN A SANDBOX (cutbox-rows.mjs): the forced cells as the released guide's own fill.sh prints them over the translation 06817face76b3c14… (all of the seat's roots in one cut). By AI agents, Wed Nov 11 2026. No macro, syntax, notation, axiom, sorry.
-/
import Derived.Test.YtipjapiifnoimaaChecked
import GoSem.Claim
import GoSem.ClaimJoined
import GoSem.ClaimMapViews
import Derived.JoinedTies
import Derived.KernelRfl
namespace Go.Proofs.Ytipjapiifnoimaa
/- THE CELL 'sum', in the pinned program and in every row, IS THE sha256 OF THE DUMP (.gsa) THAT YtipjapiifnoimaaProg.lean LOADS. Nothing in Lean hashes anything: it is a label: what it is worth is what the hold of that sum in a sandbox is worth. -/
noncomputable def Try.pinned : Pinned := { name := "ytipjapiifnoimaa", sum := "06817face76b3c1444b71a93c7a763c924601631dd00f5a176d3be9550db6b2f", checked := Try.checked }
namespace Rows
def none {H : Type} : Left H := { results := [], args := [] }

/-- 'laws.FnExactDepthOfType': WHATEVER THE INPUT: true; the input reads as it did. -/
def fnExactDepthOfTypeSpec : ChangeSpec := { name := "fnExactDepthOfType", fn := fun _ => fun
  | [d] => { results := [.lit (.bool true)], args := [d] }
  | _ => none }
def fnExactDepthOfTypeRow : OpenClaim := { program := "ytipjapiifnoimaa", sum := "06817face76b3c1444b71a93c7a763c924601631dd00f5a176d3be9550db6b2f", func := "loop.example/g00587/laws.FnExactDepthOfType", spec := "fnExactDepthOfType", recurses := true, loops := true, apart := false }
def FnExactDepthOfTypeSaid : Prop := fnExactDepthOfTypeRow.holds Try.pinned (OpenSpec.ofChange fnExactDepthOfTypeSpec)

/-- ITS FALSE NEIGHBOUR: 'it returns false'. Refute it at one input. -/
def fnExactDepthOfTypeWrong : ChangeSpec := { name := "fnExactDepthOfType", fn := fun _ => fun
  | [d] => { results := [.lit (.bool false)], args := [d] }
  | _ => none }
def FnExactDepthOfTypeWrongFalsely : Prop := fnExactDepthOfTypeRow.holds Try.pinned (OpenSpec.ofChange fnExactDepthOfTypeWrong)

/-- 'laws.FnExactCountBags': WHATEVER THE INPUT: true; the input reads as it did. -/
def fnExactCountBagsSpec : ChangeSpec := { name := "fnExactCountBags", fn := fun _ => fun
  | [d] => { results := [.lit (.bool true)], args := [d] }
  | _ => none }
def fnExactCountBagsRow : OpenClaim := { program := "ytipjapiifnoimaa", sum := "06817face76b3c1444b71a93c7a763c924601631dd00f5a176d3be9550db6b2f", func := "loop.example/g00587/laws.FnExactCountBags", spec := "fnExactCountBags", recurses := true, loops := true, apart := false }
def FnExactCountBagsSaid : Prop := fnExactCountBagsRow.holds Try.pinned (OpenSpec.ofChange fnExactCountBagsSpec)

/-- ITS FALSE NEIGHBOUR: 'it returns false'. Refute it at one input. -/
def fnExactCountBagsWrong : ChangeSpec := { name := "fnExactCountBags", fn := fun _ => fun
  | [d] => { results := [.lit (.bool false)], args := [d] }
  | _ => none }
def FnExactCountBagsWrongFalsely : Prop := fnExactCountBagsRow.holds Try.pinned (OpenSpec.ofChange fnExactCountBagsWrong)

/-- 'laws.FnExactEqualType': WHATEVER THE INPUT: true; the input reads as it did. -/
def fnExactEqualTypeSpec : ChangeSpec := { name := "fnExactEqualType", fn := fun _ => fun
  | [d1, d2] => { results := [.lit (.bool true)], args := [d1, d2] }
  | _ => none }
def fnExactEqualTypeRow : OpenClaim := { program := "ytipjapiifnoimaa", sum := "06817face76b3c1444b71a93c7a763c924601631dd00f5a176d3be9550db6b2f", func := "loop.example/g00587/laws.FnExactEqualType", spec := "fnExactEqualType", unfollowed := true, recurses := true, loops := true, apart := false }
def FnExactEqualTypeSaid : Prop := fnExactEqualTypeRow.holds Try.pinned (OpenSpec.ofChange fnExactEqualTypeSpec)

/-- ITS FALSE NEIGHBOUR: 'it returns false'. Refute it at one input. -/
def fnExactEqualTypeWrong : ChangeSpec := { name := "fnExactEqualType", fn := fun _ => fun
  | [d1, d2] => { results := [.lit (.bool false)], args := [d1, d2] }
  | _ => none }
def FnExactEqualTypeWrongFalsely : Prop := fnExactEqualTypeRow.holds Try.pinned (OpenSpec.ofChange fnExactEqualTypeWrong)

/-- 'laws.FnExactCompareValues': WHATEVER THE INPUT: true; the input reads as it did. -/
def fnExactCompareValuesSpec : ChangeSpec := { name := "fnExactCompareValues", fn := fun _ => fun
  | [d1, d2] => { results := [.lit (.bool true)], args := [d1, d2] }
  | _ => none }
def fnExactCompareValuesRow : OpenClaim := { program := "ytipjapiifnoimaa", sum := "06817face76b3c1444b71a93c7a763c924601631dd00f5a176d3be9550db6b2f", func := "loop.example/g00587/laws.FnExactCompareValues", spec := "fnExactCompareValues", recurses := true, loops := true, apart := false }
def FnExactCompareValuesSaid : Prop := fnExactCompareValuesRow.holds Try.pinned (OpenSpec.ofChange fnExactCompareValuesSpec)

/-- ITS FALSE NEIGHBOUR: 'it returns false'. Refute it at one input. -/
def fnExactCompareValuesWrong : ChangeSpec := { name := "fnExactCompareValues", fn := fun _ => fun
  | [d1, d2] => { results := [.lit (.bool false)], args := [d1, d2] }
  | _ => none }
def FnExactCompareValuesWrongFalsely : Prop := fnExactCompareValuesRow.holds Try.pinned (OpenSpec.ofChange fnExactCompareValuesWrong)

/-- 'laws.FnExactIsValue': WHATEVER THE INPUT: true; the input reads as it did. -/
def fnExactIsValueSpec : ChangeSpec := { name := "fnExactIsValue", fn := fun _ => fun
  | [d] => { results := [.lit (.bool true)], args := [d] }
  | _ => none }
def fnExactIsValueRow : OpenClaim := { program := "ytipjapiifnoimaa", sum := "06817face76b3c1444b71a93c7a763c924601631dd00f5a176d3be9550db6b2f", func := "loop.example/g00587/laws.FnExactIsValue", spec := "fnExactIsValue", unfollowed := true, recurses := true, loops := true, apart := false }
def FnExactIsValueSaid : Prop := fnExactIsValueRow.holds Try.pinned (OpenSpec.ofChange fnExactIsValueSpec)

/-- ITS FALSE NEIGHBOUR: 'it returns false'. Refute it at one input. -/
def fnExactIsValueWrong : ChangeSpec := { name := "fnExactIsValue", fn := fun _ => fun
  | [d] => { results := [.lit (.bool false)], args := [d] }
  | _ => none }
def FnExactIsValueWrongFalsely : Prop := fnExactIsValueRow.holds Try.pinned (OpenSpec.ofChange fnExactIsValueWrong)

/-- 'laws.FnExactEqualSchema': WHATEVER THE INPUT: true; the input reads as it did. -/
def fnExactEqualSchemaSpec : ChangeSpec := { name := "fnExactEqualSchema", fn := fun _ => fun
  | [d1, d2] => { results := [.lit (.bool true)], args := [d1, d2] }
  | _ => none }
def fnExactEqualSchemaRow : OpenClaim := { program := "ytipjapiifnoimaa", sum := "06817face76b3c1444b71a93c7a763c924601631dd00f5a176d3be9550db6b2f", func := "loop.example/g00587/laws.FnExactEqualSchema", spec := "fnExactEqualSchema", unfollowed := true, recurses := true, loops := true, apart := false }
def FnExactEqualSchemaSaid : Prop := fnExactEqualSchemaRow.holds Try.pinned (OpenSpec.ofChange fnExactEqualSchemaSpec)

/-- ITS FALSE NEIGHBOUR: 'it returns false'. Refute it at one input. -/
def fnExactEqualSchemaWrong : ChangeSpec := { name := "fnExactEqualSchema", fn := fun _ => fun
  | [d1, d2] => { results := [.lit (.bool false)], args := [d1, d2] }
  | _ => none }
def FnExactEqualSchemaWrongFalsely : Prop := fnExactEqualSchemaRow.holds Try.pinned (OpenSpec.ofChange fnExactEqualSchemaWrong)

/-- 'laws.FnExactIsValidType': WHATEVER THE INPUT: true; the input reads as it did. -/
def fnExactIsValidTypeSpec : ChangeSpec := { name := "fnExactIsValidType", fn := fun _ => fun
  | [d] => { results := [.lit (.bool true)], args := [d] }
  | _ => none }
def fnExactIsValidTypeRow : OpenClaim := { program := "ytipjapiifnoimaa", sum := "06817face76b3c1444b71a93c7a763c924601631dd00f5a176d3be9550db6b2f", func := "loop.example/g00587/laws.FnExactIsValidType", spec := "fnExactIsValidType", unfollowed := true, recurses := true, loops := true, apart := false }
def FnExactIsValidTypeSaid : Prop := fnExactIsValidTypeRow.holds Try.pinned (OpenSpec.ofChange fnExactIsValidTypeSpec)

/-- ITS FALSE NEIGHBOUR: 'it returns false'. Refute it at one input. -/
def fnExactIsValidTypeWrong : ChangeSpec := { name := "fnExactIsValidType", fn := fun _ => fun
  | [d] => { results := [.lit (.bool false)], args := [d] }
  | _ => none }
def FnExactIsValidTypeWrongFalsely : Prop := fnExactIsValidTypeRow.holds Try.pinned (OpenSpec.ofChange fnExactIsValidTypeWrong)

/-- 'laws.FnExactIsData': WHATEVER THE INPUT: true; the input reads as it did. -/
def fnExactIsDataSpec : ChangeSpec := { name := "fnExactIsData", fn := fun _ => fun
  | [d] => { results := [.lit (.bool true)], args := [d] }
  | _ => none }
def fnExactIsDataRow : OpenClaim := { program := "ytipjapiifnoimaa", sum := "06817face76b3c1444b71a93c7a763c924601631dd00f5a176d3be9550db6b2f", func := "loop.example/g00587/laws.FnExactIsData", spec := "fnExactIsData", unfollowed := true, recurses := true, loops := true, apart := false }
def FnExactIsDataSaid : Prop := fnExactIsDataRow.holds Try.pinned (OpenSpec.ofChange fnExactIsDataSpec)

/-- ITS FALSE NEIGHBOUR: 'it returns false'. Refute it at one input. -/
def fnExactIsDataWrong : ChangeSpec := { name := "fnExactIsData", fn := fun _ => fun
  | [d] => { results := [.lit (.bool false)], args := [d] }
  | _ => none }
def FnExactIsDataWrongFalsely : Prop := fnExactIsDataRow.holds Try.pinned (OpenSpec.ofChange fnExactIsDataWrong)

/-- 'laws.FnExactIsRow': WHATEVER THE INPUT: true; the input reads as it did. -/
def fnExactIsRowSpec : ChangeSpec := { name := "fnExactIsRow", fn := fun _ => fun
  | [d] => { results := [.lit (.bool true)], args := [d] }
  | _ => none }
def fnExactIsRowRow : OpenClaim := { program := "ytipjapiifnoimaa", sum := "06817face76b3c1444b71a93c7a763c924601631dd00f5a176d3be9550db6b2f", func := "loop.example/g00587/laws.FnExactIsRow", spec := "fnExactIsRow", unfollowed := true, recurses := true, loops := true, apart := false }
def FnExactIsRowSaid : Prop := fnExactIsRowRow.holds Try.pinned (OpenSpec.ofChange fnExactIsRowSpec)

/-- ITS FALSE NEIGHBOUR: 'it returns false'. Refute it at one input. -/
def fnExactIsRowWrong : ChangeSpec := { name := "fnExactIsRow", fn := fun _ => fun
  | [d] => { results := [.lit (.bool false)], args := [d] }
  | _ => none }
def FnExactIsRowWrongFalsely : Prop := fnExactIsRowRow.holds Try.pinned (OpenSpec.ofChange fnExactIsRowWrong)

/-- 'laws.FnExactEqualDB': WHATEVER THE INPUT: true; the input reads as it did. -/
def fnExactEqualDBSpec : ChangeSpec := { name := "fnExactEqualDB", fn := fun _ => fun
  | [d1, d2] => { results := [.lit (.bool true)], args := [d1, d2] }
  | _ => none }
def fnExactEqualDBRow : OpenClaim := { program := "ytipjapiifnoimaa", sum := "06817face76b3c1444b71a93c7a763c924601631dd00f5a176d3be9550db6b2f", func := "loop.example/g00587/laws.FnExactEqualDB", spec := "fnExactEqualDB", unfollowed := true, recurses := true, loops := true, apart := false }
def FnExactEqualDBSaid : Prop := fnExactEqualDBRow.holds Try.pinned (OpenSpec.ofChange fnExactEqualDBSpec)

/-- ITS FALSE NEIGHBOUR: 'it returns false'. Refute it at one input. -/
def fnExactEqualDBWrong : ChangeSpec := { name := "fnExactEqualDB", fn := fun _ => fun
  | [d1, d2] => { results := [.lit (.bool false)], args := [d1, d2] }
  | _ => none }
def FnExactEqualDBWrongFalsely : Prop := fnExactEqualDBRow.holds Try.pinned (OpenSpec.ofChange fnExactEqualDBWrong)

/- THE SECOND FORM. 'bulk': how many values and letters a reading holds, each counted each time it is reached (what is shared counts as often as it is met; a slice's spare places count too). A statement '..UptoSaid' is the law's where the arguments, and the package variables that the reading takes, are together of bulk at most 1048576: NARROWER than '..Said'. Prove '..Said' where nothing that the law and all that it calls make is longer than what came in: it says more and counts as full. Else prove '..UptoSaid'. A law counts once. -/
mutual
def uptoBulk {H : Type} : DataW H → Nat
  | .lit (.string bytes) => bytes.length + 1
  | .lit _ => 1
  | .nil => 1
  | .ptr d => uptoBulk d + 1
  | .slice elems spare => uptoBulkAll elems + uptoBulkAll spare + 1
  | .agg parts => uptoBulkAll parts + 1
  | .iface _ d => uptoBulk d + 1
  | .map entries => uptoBulkEntries entries + 1
  | .held _ => 1
def uptoBulkAll {H : Type} : List (DataW H) → Nat
  | [] => 0
  | d :: r => uptoBulk d + uptoBulkAll r
def uptoBulkEntries {H : Type} : List (Lit × DataW H) → Nat
  | [] => 0
  | x :: r => uptoBulkEntry x + uptoBulkEntries r
def uptoBulkEntry {H : Type} : Lit × DataW H → Nat
  | (.string bytes, d) => bytes.length + uptoBulk d + 1
  | (_, d) => uptoBulk d + 1
 end
def uptoSmall : (H : Type) → List (DataW H) → Bool := fun _ ds => decide (uptoBulkAll ds ≤ 1048576)
def OpenSpec.upto (s : _root_.Go.ChangeSpec) : _root_.Go.OpenSpec := { _root_.Go.OpenSpec.ofChange s with cond := some uptoSmall }

/-- 'laws.FnExactDepthOfType', WHERE WHAT IT READS IS OF BULK AT MOST 1048576: true; the input reads as it did. -/
def fnExactDepthOfTypeUptoRow : OpenClaim := { program := "ytipjapiifnoimaa", sum := "06817face76b3c1444b71a93c7a763c924601631dd00f5a176d3be9550db6b2f", func := "loop.example/g00587/laws.FnExactDepthOfType", spec := "fnExactDepthOfType", recurses := true, loops := true, apart := false, narrowed := true }
def FnExactDepthOfTypeUptoSaid : Prop := fnExactDepthOfTypeUptoRow.holds Try.pinned (OpenSpec.upto fnExactDepthOfTypeSpec)

/-- 'laws.FnExactCountBags', WHERE WHAT IT READS IS OF BULK AT MOST 1048576: true; the input reads as it did. -/
def fnExactCountBagsUptoRow : OpenClaim := { program := "ytipjapiifnoimaa", sum := "06817face76b3c1444b71a93c7a763c924601631dd00f5a176d3be9550db6b2f", func := "loop.example/g00587/laws.FnExactCountBags", spec := "fnExactCountBags", recurses := true, loops := true, apart := false, narrowed := true }
def FnExactCountBagsUptoSaid : Prop := fnExactCountBagsUptoRow.holds Try.pinned (OpenSpec.upto fnExactCountBagsSpec)

/-- 'laws.FnExactEqualType', WHERE WHAT IT READS IS OF BULK AT MOST 1048576: true; the input reads as it did. -/
def fnExactEqualTypeUptoRow : OpenClaim := { program := "ytipjapiifnoimaa", sum := "06817face76b3c1444b71a93c7a763c924601631dd00f5a176d3be9550db6b2f", func := "loop.example/g00587/laws.FnExactEqualType", spec := "fnExactEqualType", unfollowed := true, recurses := true, loops := true, apart := false, narrowed := true }
def FnExactEqualTypeUptoSaid : Prop := fnExactEqualTypeUptoRow.holds Try.pinned (OpenSpec.upto fnExactEqualTypeSpec)

/-- 'laws.FnExactCompareValues', WHERE WHAT IT READS IS OF BULK AT MOST 1048576: true; the input reads as it did. -/
def fnExactCompareValuesUptoRow : OpenClaim := { program := "ytipjapiifnoimaa", sum := "06817face76b3c1444b71a93c7a763c924601631dd00f5a176d3be9550db6b2f", func := "loop.example/g00587/laws.FnExactCompareValues", spec := "fnExactCompareValues", recurses := true, loops := true, apart := false, narrowed := true }
def FnExactCompareValuesUptoSaid : Prop := fnExactCompareValuesUptoRow.holds Try.pinned (OpenSpec.upto fnExactCompareValuesSpec)

/-- 'laws.FnExactIsValue', WHERE WHAT IT READS IS OF BULK AT MOST 1048576: true; the input reads as it did. -/
def fnExactIsValueUptoRow : OpenClaim := { program := "ytipjapiifnoimaa", sum := "06817face76b3c1444b71a93c7a763c924601631dd00f5a176d3be9550db6b2f", func := "loop.example/g00587/laws.FnExactIsValue", spec := "fnExactIsValue", unfollowed := true, recurses := true, loops := true, apart := false, narrowed := true }
def FnExactIsValueUptoSaid : Prop := fnExactIsValueUptoRow.holds Try.pinned (OpenSpec.upto fnExactIsValueSpec)

/-- 'laws.FnExactEqualSchema', WHERE WHAT IT READS IS OF BULK AT MOST 1048576: true; the input reads as it did. -/
def fnExactEqualSchemaUptoRow : OpenClaim := { program := "ytipjapiifnoimaa", sum := "06817face76b3c1444b71a93c7a763c924601631dd00f5a176d3be9550db6b2f", func := "loop.example/g00587/laws.FnExactEqualSchema", spec := "fnExactEqualSchema", unfollowed := true, recurses := true, loops := true, apart := false, narrowed := true }
def FnExactEqualSchemaUptoSaid : Prop := fnExactEqualSchemaUptoRow.holds Try.pinned (OpenSpec.upto fnExactEqualSchemaSpec)

/-- 'laws.FnExactIsValidType', WHERE WHAT IT READS IS OF BULK AT MOST 1048576: true; the input reads as it did. -/
def fnExactIsValidTypeUptoRow : OpenClaim := { program := "ytipjapiifnoimaa", sum := "06817face76b3c1444b71a93c7a763c924601631dd00f5a176d3be9550db6b2f", func := "loop.example/g00587/laws.FnExactIsValidType", spec := "fnExactIsValidType", unfollowed := true, recurses := true, loops := true, apart := false, narrowed := true }
def FnExactIsValidTypeUptoSaid : Prop := fnExactIsValidTypeUptoRow.holds Try.pinned (OpenSpec.upto fnExactIsValidTypeSpec)

/-- 'laws.FnExactIsData', WHERE WHAT IT READS IS OF BULK AT MOST 1048576: true; the input reads as it did. -/
def fnExactIsDataUptoRow : OpenClaim := { program := "ytipjapiifnoimaa", sum := "06817face76b3c1444b71a93c7a763c924601631dd00f5a176d3be9550db6b2f", func := "loop.example/g00587/laws.FnExactIsData", spec := "fnExactIsData", unfollowed := true, recurses := true, loops := true, apart := false, narrowed := true }
def FnExactIsDataUptoSaid : Prop := fnExactIsDataUptoRow.holds Try.pinned (OpenSpec.upto fnExactIsDataSpec)

/-- 'laws.FnExactIsRow', WHERE WHAT IT READS IS OF BULK AT MOST 1048576: true; the input reads as it did. -/
def fnExactIsRowUptoRow : OpenClaim := { program := "ytipjapiifnoimaa", sum := "06817face76b3c1444b71a93c7a763c924601631dd00f5a176d3be9550db6b2f", func := "loop.example/g00587/laws.FnExactIsRow", spec := "fnExactIsRow", unfollowed := true, recurses := true, loops := true, apart := false, narrowed := true }
def FnExactIsRowUptoSaid : Prop := fnExactIsRowUptoRow.holds Try.pinned (OpenSpec.upto fnExactIsRowSpec)

/-- 'laws.FnExactEqualDB', WHERE WHAT IT READS IS OF BULK AT MOST 1048576: true; the input reads as it did. -/
def fnExactEqualDBUptoRow : OpenClaim := { program := "ytipjapiifnoimaa", sum := "06817face76b3c1444b71a93c7a763c924601631dd00f5a176d3be9550db6b2f", func := "loop.example/g00587/laws.FnExactEqualDB", spec := "fnExactEqualDB", unfollowed := true, recurses := true, loops := true, apart := false, narrowed := true }
def FnExactEqualDBUptoSaid : Prop := fnExactEqualDBUptoRow.holds Try.pinned (OpenSpec.upto fnExactEqualDBSpec)

end Rows
end Go.Proofs.Ytipjapiifnoimaa
