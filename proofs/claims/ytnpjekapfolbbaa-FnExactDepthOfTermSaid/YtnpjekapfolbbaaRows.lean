/-
  NARROWER THAN 'FOR EVERY INPUT', by the rows' own cells (each row's printed sentence says how): FnExactSizeOfTerm: loops · FnExactDepthOfTerm: loops · FnExactEqualTerm: loops · FnExactHasType: loops · FnExactIsCtx: loops · FnExactAlphaEqual: loops · FnExactIsSchema: loops · FnExactIsValidTerm: loops · FnExactIsDB: loops.
  DERIVED. THE GIVEN ROWS OF THIS SEAT. 10 by the template 'for every input the law returns true; each argument reads behind the call as it read before'; 0 by the template 'total and deterministic' (their statements: YtnpjekapfolbbaaTotals.lean).
  GIVEN WITH THE SEED: the statements are not yours to turn. If you find one false, say at which input.
  Laid BY PROGRAM, IN A SANDBOX (cutbox-rows.mjs): the forced cells as the released guide's own fill.sh prints them over the translation 8b1ad337ae7ba909… (all of the seat's roots in one cut). By AI agents, Wed Nov 11 2026. No macro, syntax, notation, axiom, sorry.
-/
import Derived.Test.YtnpjekapfolbbaaChecked
import GoSem.Claim
import GoSem.ClaimJoined
import GoSem.ClaimMapViews
import Derived.JoinedTies
import Derived.KernelRfl
namespace Go.Proofs.Ytnpjekapfolbbaa
/- THE CELL 'sum', in the pinned program and in every row, IS THE sha256 OF THE DUMP (.gsa) THAT YtnpjekapfolbbaaProg.lean LOADS. Nothing in Lean hashes anything: it is a label: what it is worth is what the hold of that sum in a sandbox is worth. -/
noncomputable def Try.pinned : Pinned := { name := "ytnpjekapfolbbaa", sum := "8b1ad337ae7ba909ea2245e6025690f7e4a4c58b209ca613b26d4add05dbc575", checked := Try.checked }
namespace Rows
def none {H : Type} : Left H := { results := [], args := [] }

/-- 'laws.FnExactSizeOfTerm': WHATEVER THE INPUT: true; the input reads as it did. -/
def fnExactSizeOfTermSpec : ChangeSpec := { name := "fnExactSizeOfTerm", fn := fun _ => fun
  | [d] => { results := [.lit (.bool true)], args := [d] }
  | _ => none }
def fnExactSizeOfTermRow : OpenClaim := { program := "ytnpjekapfolbbaa", sum := "8b1ad337ae7ba909ea2245e6025690f7e4a4c58b209ca613b26d4add05dbc575", func := "loop.example/g00587/laws.FnExactSizeOfTerm", spec := "fnExactSizeOfTerm", recurses := true, loops := true, apart := false }
def FnExactSizeOfTermSaid : Prop := fnExactSizeOfTermRow.holds Try.pinned (OpenSpec.ofChange fnExactSizeOfTermSpec)

/-- ITS FALSE NEIGHBOUR: 'it returns false'. Refute it at one input. -/
def fnExactSizeOfTermWrong : ChangeSpec := { name := "fnExactSizeOfTerm", fn := fun _ => fun
  | [d] => { results := [.lit (.bool false)], args := [d] }
  | _ => none }
def FnExactSizeOfTermWrongFalsely : Prop := fnExactSizeOfTermRow.holds Try.pinned (OpenSpec.ofChange fnExactSizeOfTermWrong)

/-- 'laws.FnExactDepthOfTerm': WHATEVER THE INPUT: true; the input reads as it did. -/
def fnExactDepthOfTermSpec : ChangeSpec := { name := "fnExactDepthOfTerm", fn := fun _ => fun
  | [d] => { results := [.lit (.bool true)], args := [d] }
  | _ => none }
def fnExactDepthOfTermRow : OpenClaim := { program := "ytnpjekapfolbbaa", sum := "8b1ad337ae7ba909ea2245e6025690f7e4a4c58b209ca613b26d4add05dbc575", func := "loop.example/g00587/laws.FnExactDepthOfTerm", spec := "fnExactDepthOfTerm", recurses := true, loops := true, apart := false }
def FnExactDepthOfTermSaid : Prop := fnExactDepthOfTermRow.holds Try.pinned (OpenSpec.ofChange fnExactDepthOfTermSpec)

/-- ITS FALSE NEIGHBOUR: 'it returns false'. Refute it at one input. -/
def fnExactDepthOfTermWrong : ChangeSpec := { name := "fnExactDepthOfTerm", fn := fun _ => fun
  | [d] => { results := [.lit (.bool false)], args := [d] }
  | _ => none }
def FnExactDepthOfTermWrongFalsely : Prop := fnExactDepthOfTermRow.holds Try.pinned (OpenSpec.ofChange fnExactDepthOfTermWrong)

/-- 'laws.FnExactEqualTerm': WHATEVER THE INPUT: true; the input reads as it did. -/
def fnExactEqualTermSpec : ChangeSpec := { name := "fnExactEqualTerm", fn := fun _ => fun
  | [d1, d2] => { results := [.lit (.bool true)], args := [d1, d2] }
  | _ => none }
def fnExactEqualTermRow : OpenClaim := { program := "ytnpjekapfolbbaa", sum := "8b1ad337ae7ba909ea2245e6025690f7e4a4c58b209ca613b26d4add05dbc575", func := "loop.example/g00587/laws.FnExactEqualTerm", spec := "fnExactEqualTerm", unfollowed := true, recurses := true, loops := true, apart := false }
def FnExactEqualTermSaid : Prop := fnExactEqualTermRow.holds Try.pinned (OpenSpec.ofChange fnExactEqualTermSpec)

/-- ITS FALSE NEIGHBOUR: 'it returns false'. Refute it at one input. -/
def fnExactEqualTermWrong : ChangeSpec := { name := "fnExactEqualTerm", fn := fun _ => fun
  | [d1, d2] => { results := [.lit (.bool false)], args := [d1, d2] }
  | _ => none }
def FnExactEqualTermWrongFalsely : Prop := fnExactEqualTermRow.holds Try.pinned (OpenSpec.ofChange fnExactEqualTermWrong)

/-- 'laws.FnExactHasType': WHATEVER THE INPUT: true; the input reads as it did. -/
def fnExactHasTypeSpec : ChangeSpec := { name := "fnExactHasType", fn := fun _ => fun
  | [d1, d2] => { results := [.lit (.bool true)], args := [d1, d2] }
  | _ => none }
def fnExactHasTypeRow : OpenClaim := { program := "ytnpjekapfolbbaa", sum := "8b1ad337ae7ba909ea2245e6025690f7e4a4c58b209ca613b26d4add05dbc575", func := "loop.example/g00587/laws.FnExactHasType", spec := "fnExactHasType", unfollowed := true, recurses := true, loops := true, apart := false }
def FnExactHasTypeSaid : Prop := fnExactHasTypeRow.holds Try.pinned (OpenSpec.ofChange fnExactHasTypeSpec)

/-- ITS FALSE NEIGHBOUR: 'it returns false'. Refute it at one input. -/
def fnExactHasTypeWrong : ChangeSpec := { name := "fnExactHasType", fn := fun _ => fun
  | [d1, d2] => { results := [.lit (.bool false)], args := [d1, d2] }
  | _ => none }
def FnExactHasTypeWrongFalsely : Prop := fnExactHasTypeRow.holds Try.pinned (OpenSpec.ofChange fnExactHasTypeWrong)

/-- 'laws.FnExactIsCtx': WHATEVER THE INPUT: true; the input reads as it did. -/
def fnExactIsCtxSpec : ChangeSpec := { name := "fnExactIsCtx", fn := fun _ => fun
  | [d] => { results := [.lit (.bool true)], args := [d] }
  | _ => none }
def fnExactIsCtxRow : OpenClaim := { program := "ytnpjekapfolbbaa", sum := "8b1ad337ae7ba909ea2245e6025690f7e4a4c58b209ca613b26d4add05dbc575", func := "loop.example/g00587/laws.FnExactIsCtx", spec := "fnExactIsCtx", unfollowed := true, recurses := true, loops := true, apart := false }
def FnExactIsCtxSaid : Prop := fnExactIsCtxRow.holds Try.pinned (OpenSpec.ofChange fnExactIsCtxSpec)

/-- ITS FALSE NEIGHBOUR: 'it returns false'. Refute it at one input. -/
def fnExactIsCtxWrong : ChangeSpec := { name := "fnExactIsCtx", fn := fun _ => fun
  | [d] => { results := [.lit (.bool false)], args := [d] }
  | _ => none }
def FnExactIsCtxWrongFalsely : Prop := fnExactIsCtxRow.holds Try.pinned (OpenSpec.ofChange fnExactIsCtxWrong)

/-- 'laws.FnExactAlphaEqual': WHATEVER THE INPUT: true; the input reads as it did. -/
def fnExactAlphaEqualSpec : ChangeSpec := { name := "fnExactAlphaEqual", fn := fun _ => fun
  | [d1, d2] => { results := [.lit (.bool true)], args := [d1, d2] }
  | _ => none }
def fnExactAlphaEqualRow : OpenClaim := { program := "ytnpjekapfolbbaa", sum := "8b1ad337ae7ba909ea2245e6025690f7e4a4c58b209ca613b26d4add05dbc575", func := "loop.example/g00587/laws.FnExactAlphaEqual", spec := "fnExactAlphaEqual", unfollowed := true, recurses := true, loops := true, apart := false }
def FnExactAlphaEqualSaid : Prop := fnExactAlphaEqualRow.holds Try.pinned (OpenSpec.ofChange fnExactAlphaEqualSpec)

/-- ITS FALSE NEIGHBOUR: 'it returns false'. Refute it at one input. -/
def fnExactAlphaEqualWrong : ChangeSpec := { name := "fnExactAlphaEqual", fn := fun _ => fun
  | [d1, d2] => { results := [.lit (.bool false)], args := [d1, d2] }
  | _ => none }
def FnExactAlphaEqualWrongFalsely : Prop := fnExactAlphaEqualRow.holds Try.pinned (OpenSpec.ofChange fnExactAlphaEqualWrong)

/-- 'laws.FnExactIsSchema': WHATEVER THE INPUT: true; the input reads as it did. -/
def fnExactIsSchemaSpec : ChangeSpec := { name := "fnExactIsSchema", fn := fun _ => fun
  | [d] => { results := [.lit (.bool true)], args := [d] }
  | _ => none }
def fnExactIsSchemaRow : OpenClaim := { program := "ytnpjekapfolbbaa", sum := "8b1ad337ae7ba909ea2245e6025690f7e4a4c58b209ca613b26d4add05dbc575", func := "loop.example/g00587/laws.FnExactIsSchema", spec := "fnExactIsSchema", unfollowed := true, recurses := true, loops := true, apart := false }
def FnExactIsSchemaSaid : Prop := fnExactIsSchemaRow.holds Try.pinned (OpenSpec.ofChange fnExactIsSchemaSpec)

/-- ITS FALSE NEIGHBOUR: 'it returns false'. Refute it at one input. -/
def fnExactIsSchemaWrong : ChangeSpec := { name := "fnExactIsSchema", fn := fun _ => fun
  | [d] => { results := [.lit (.bool false)], args := [d] }
  | _ => none }
def FnExactIsSchemaWrongFalsely : Prop := fnExactIsSchemaRow.holds Try.pinned (OpenSpec.ofChange fnExactIsSchemaWrong)

/-- 'laws.FnExactIsValidTerm': WHATEVER THE INPUT: true; the input reads as it did. -/
def fnExactIsValidTermSpec : ChangeSpec := { name := "fnExactIsValidTerm", fn := fun _ => fun
  | [d] => { results := [.lit (.bool true)], args := [d] }
  | _ => none }
def fnExactIsValidTermRow : OpenClaim := { program := "ytnpjekapfolbbaa", sum := "8b1ad337ae7ba909ea2245e6025690f7e4a4c58b209ca613b26d4add05dbc575", func := "loop.example/g00587/laws.FnExactIsValidTerm", spec := "fnExactIsValidTerm", unfollowed := true, recurses := true, loops := true, apart := false }
def FnExactIsValidTermSaid : Prop := fnExactIsValidTermRow.holds Try.pinned (OpenSpec.ofChange fnExactIsValidTermSpec)

/-- ITS FALSE NEIGHBOUR: 'it returns false'. Refute it at one input. -/
def fnExactIsValidTermWrong : ChangeSpec := { name := "fnExactIsValidTerm", fn := fun _ => fun
  | [d] => { results := [.lit (.bool false)], args := [d] }
  | _ => none }
def FnExactIsValidTermWrongFalsely : Prop := fnExactIsValidTermRow.holds Try.pinned (OpenSpec.ofChange fnExactIsValidTermWrong)

/-- 'laws.FnExactIsDB': WHATEVER THE INPUT: true; the input reads as it did. -/
def fnExactIsDBSpec : ChangeSpec := { name := "fnExactIsDB", fn := fun _ => fun
  | [d1, d2] => { results := [.lit (.bool true)], args := [d1, d2] }
  | _ => none }
def fnExactIsDBRow : OpenClaim := { program := "ytnpjekapfolbbaa", sum := "8b1ad337ae7ba909ea2245e6025690f7e4a4c58b209ca613b26d4add05dbc575", func := "loop.example/g00587/laws.FnExactIsDB", spec := "fnExactIsDB", unfollowed := true, recurses := true, loops := true, apart := false }
def FnExactIsDBSaid : Prop := fnExactIsDBRow.holds Try.pinned (OpenSpec.ofChange fnExactIsDBSpec)

/-- ITS FALSE NEIGHBOUR: 'it returns false'. Refute it at one input. -/
def fnExactIsDBWrong : ChangeSpec := { name := "fnExactIsDB", fn := fun _ => fun
  | [d1, d2] => { results := [.lit (.bool false)], args := [d1, d2] }
  | _ => none }
def FnExactIsDBWrongFalsely : Prop := fnExactIsDBRow.holds Try.pinned (OpenSpec.ofChange fnExactIsDBWrong)

/-- 'laws.FnTerms': WHATEVER THE INPUT: true; the input reads as it did. -/
def fnTermsSpec : ChangeSpec := { name := "fnTerms", fn := fun _ => fun
  | [d] => { results := [.lit (.bool true)], args := [d] }
  | _ => none }
def fnTermsRow : OpenClaim := { program := "ytnpjekapfolbbaa", sum := "8b1ad337ae7ba909ea2245e6025690f7e4a4c58b209ca613b26d4add05dbc575", func := "loop.example/g00587/laws.FnTerms", spec := "fnTerms", unfollowed := true, recurses := true, apart := false }
def FnTermsSaid : Prop := fnTermsRow.holds Try.pinned (OpenSpec.ofChange fnTermsSpec)

/-- ITS FALSE NEIGHBOUR: 'it returns false'. Refute it at one input. -/
def fnTermsWrong : ChangeSpec := { name := "fnTerms", fn := fun _ => fun
  | [d] => { results := [.lit (.bool false)], args := [d] }
  | _ => none }
def FnTermsWrongFalsely : Prop := fnTermsRow.holds Try.pinned (OpenSpec.ofChange fnTermsWrong)

/- THE SECOND FORM. 'bulk': how many values and letters a reading holds, each counted each time it is reached (what is shared counts as often as it is met; a slice's spare places count too). A statement '..UptoSaid' is the law's where the arguments, and the package variables that the reading takes, are together of bulk at most 1048576: NARROWER than '..Said'. Prove '..Said' where nothing that the law and all that it calls make is longer than what came in: it says more and counts as full. Else prove '..UptoSaid'. A law counts once. -/
mutual
def uptoBulk {H : Type} : DataW H → Nat
  | .lit (.string bytes) => bytes.length + 1
  | .lit _ => 1
  | .nil => 1
  | .ptr d => uptoBulk d + 1
  | .slice elems spare => uptoBulkAll elems + uptoBulkAll spare + 1
  | .agg parts => uptoBulkAll parts + 1
  | .iface _ d => uptoBulk d + 1
  | .map entries => uptoBulkEntries entries + 1
  | .held _ => 1
def uptoBulkAll {H : Type} : List (DataW H) → Nat
  | [] => 0
  | d :: r => uptoBulk d + uptoBulkAll r
def uptoBulkEntries {H : Type} : List (Lit × DataW H) → Nat
  | [] => 0
  | x :: r => uptoBulkEntry x + uptoBulkEntries r
def uptoBulkEntry {H : Type} : Lit × DataW H → Nat
  | (.string bytes, d) => bytes.length + uptoBulk d + 1
  | (_, d) => uptoBulk d + 1
 end
def uptoSmall : (H : Type) → List (DataW H) → Bool := fun _ ds => decide (uptoBulkAll ds ≤ 1048576)
def OpenSpec.upto (s : _root_.Go.ChangeSpec) : _root_.Go.OpenSpec := { _root_.Go.OpenSpec.ofChange s with cond := some uptoSmall }

/-- 'laws.FnExactSizeOfTerm', WHERE WHAT IT READS IS OF BULK AT MOST 1048576: true; the input reads as it did. -/
def fnExactSizeOfTermUptoRow : OpenClaim := { program := "ytnpjekapfolbbaa", sum := "8b1ad337ae7ba909ea2245e6025690f7e4a4c58b209ca613b26d4add05dbc575", func := "loop.example/g00587/laws.FnExactSizeOfTerm", spec := "fnExactSizeOfTerm", recurses := true, loops := true, apart := false, narrowed := true }
def FnExactSizeOfTermUptoSaid : Prop := fnExactSizeOfTermUptoRow.holds Try.pinned (OpenSpec.upto fnExactSizeOfTermSpec)

/-- 'laws.FnExactDepthOfTerm', WHERE WHAT IT READS IS OF BULK AT MOST 1048576: true; the input reads as it did. -/
def fnExactDepthOfTermUptoRow : OpenClaim := { program := "ytnpjekapfolbbaa", sum := "8b1ad337ae7ba909ea2245e6025690f7e4a4c58b209ca613b26d4add05dbc575", func := "loop.example/g00587/laws.FnExactDepthOfTerm", spec := "fnExactDepthOfTerm", recurses := true, loops := true, apart := false, narrowed := true }
def FnExactDepthOfTermUptoSaid : Prop := fnExactDepthOfTermUptoRow.holds Try.pinned (OpenSpec.upto fnExactDepthOfTermSpec)

/-- 'laws.FnExactEqualTerm', WHERE WHAT IT READS IS OF BULK AT MOST 1048576: true; the input reads as it did. -/
def fnExactEqualTermUptoRow : OpenClaim := { program := "ytnpjekapfolbbaa", sum := "8b1ad337ae7ba909ea2245e6025690f7e4a4c58b209ca613b26d4add05dbc575", func := "loop.example/g00587/laws.FnExactEqualTerm", spec := "fnExactEqualTerm", unfollowed := true, recurses := true, loops := true, apart := false, narrowed := true }
def FnExactEqualTermUptoSaid : Prop := fnExactEqualTermUptoRow.holds Try.pinned (OpenSpec.upto fnExactEqualTermSpec)

/-- 'laws.FnExactHasType', WHERE WHAT IT READS IS OF BULK AT MOST 1048576: true; the input reads as it did. -/
def fnExactHasTypeUptoRow : OpenClaim := { program := "ytnpjekapfolbbaa", sum := "8b1ad337ae7ba909ea2245e6025690f7e4a4c58b209ca613b26d4add05dbc575", func := "loop.example/g00587/laws.FnExactHasType", spec := "fnExactHasType", unfollowed := true, recurses := true, loops := true, apart := false, narrowed := true }
def FnExactHasTypeUptoSaid : Prop := fnExactHasTypeUptoRow.holds Try.pinned (OpenSpec.upto fnExactHasTypeSpec)

/-- 'laws.FnExactIsCtx', WHERE WHAT IT READS IS OF BULK AT MOST 1048576: true; the input reads as it did. -/
def fnExactIsCtxUptoRow : OpenClaim := { program := "ytnpjekapfolbbaa", sum := "8b1ad337ae7ba909ea2245e6025690f7e4a4c58b209ca613b26d4add05dbc575", func := "loop.example/g00587/laws.FnExactIsCtx", spec := "fnExactIsCtx", unfollowed := true, recurses := true, loops := true, apart := false, narrowed := true }
def FnExactIsCtxUptoSaid : Prop := fnExactIsCtxUptoRow.holds Try.pinned (OpenSpec.upto fnExactIsCtxSpec)

/-- 'laws.FnExactAlphaEqual', WHERE WHAT IT READS IS OF BULK AT MOST 1048576: true; the input reads as it did. -/
def fnExactAlphaEqualUptoRow : OpenClaim := { program := "ytnpjekapfolbbaa", sum := "8b1ad337ae7ba909ea2245e6025690f7e4a4c58b209ca613b26d4add05dbc575", func := "loop.example/g00587/laws.FnExactAlphaEqual", spec := "fnExactAlphaEqual", unfollowed := true, recurses := true, loops := true, apart := false, narrowed := true }
def FnExactAlphaEqualUptoSaid : Prop := fnExactAlphaEqualUptoRow.holds Try.pinned (OpenSpec.upto fnExactAlphaEqualSpec)

/-- 'laws.FnExactIsSchema', WHERE WHAT IT READS IS OF BULK AT MOST 1048576: true; the input reads as it did. -/
def fnExactIsSchemaUptoRow : OpenClaim := { program := "ytnpjekapfolbbaa", sum := "8b1ad337ae7ba909ea2245e6025690f7e4a4c58b209ca613b26d4add05dbc575", func := "loop.example/g00587/laws.FnExactIsSchema", spec := "fnExactIsSchema", unfollowed := true, recurses := true, loops := true, apart := false, narrowed := true }
def FnExactIsSchemaUptoSaid : Prop := fnExactIsSchemaUptoRow.holds Try.pinned (OpenSpec.upto fnExactIsSchemaSpec)

/-- 'laws.FnExactIsValidTerm', WHERE WHAT IT READS IS OF BULK AT MOST 1048576: true; the input reads as it did. -/
def fnExactIsValidTermUptoRow : OpenClaim := { program := "ytnpjekapfolbbaa", sum := "8b1ad337ae7ba909ea2245e6025690f7e4a4c58b209ca613b26d4add05dbc575", func := "loop.example/g00587/laws.FnExactIsValidTerm", spec := "fnExactIsValidTerm", unfollowed := true, recurses := true, loops := true, apart := false, narrowed := true }
def FnExactIsValidTermUptoSaid : Prop := fnExactIsValidTermUptoRow.holds Try.pinned (OpenSpec.upto fnExactIsValidTermSpec)

/-- 'laws.FnExactIsDB', WHERE WHAT IT READS IS OF BULK AT MOST 1048576: true; the input reads as it did. -/
def fnExactIsDBUptoRow : OpenClaim := { program := "ytnpjekapfolbbaa", sum := "8b1ad337ae7ba909ea2245e6025690f7e4a4c58b209ca613b26d4add05dbc575", func := "loop.example/g00587/laws.FnExactIsDB", spec := "fnExactIsDB", unfollowed := true, recurses := true, loops := true, apart := false, narrowed := true }
def FnExactIsDBUptoSaid : Prop := fnExactIsDBUptoRow.holds Try.pinned (OpenSpec.upto fnExactIsDBSpec)

/-- 'laws.FnTerms', WHERE WHAT IT READS IS OF BULK AT MOST 1048576: true; the input reads as it did. -/
def fnTermsUptoRow : OpenClaim := { program := "ytnpjekapfolbbaa", sum := "8b1ad337ae7ba909ea2245e6025690f7e4a4c58b209ca613b26d4add05dbc575", func := "loop.example/g00587/laws.FnTerms", spec := "fnTerms", unfollowed := true, recurses := true, apart := false, narrowed := true }
def FnTermsUptoSaid : Prop := fnTermsUptoRow.holds Try.pinned (OpenSpec.upto fnTermsSpec)

end Rows
end Go.Proofs.Ytnpjekapfolbbaa
