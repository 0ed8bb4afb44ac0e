/-
  NARROWER THAN 'FOR EVERY INPUT', by the rows' own cells (each row's printed sentence says how): FnExactSizeOfType: loops · FnExactSizeOfValue: loops.
  DERIVED. THE GIVEN ROWS OF THIS SEAT. 7 by the template 'for every input the law returns true; each argument reads behind the call as it read before'; 0 by the template 'total and deterministic' (their statements: YtljinkdlmfcikaaTotals.lean).
  GIVEN WITH THE SEED: the statements are not yours to turn. If you find one false, say at which input.
  Laid BY PROGRAM, IN A SANDBOX (cutbox-rows.mjs): the forced cells as the released guide's own fill.sh prints them over the translation 315dfbce9da76d0a… (all of the seat's roots in one cut). By AI agents, Wed Nov 11 2026. No macro, syntax, notation, axiom, sorry.
-/
import Derived.Test.YtljinkdlmfcikaaChecked
import GoSem.Claim
import GoSem.ClaimJoined
import GoSem.ClaimMapViews
import Derived.JoinedTies
import Derived.KernelRfl
namespace Go.Proofs.Ytljinkdlmfcikaa
/- THE CELL 'sum', in the pinned program and in every row, IS THE sha256 OF THE DUMP (.gsa) THAT YtljinkdlmfcikaaProg.lean LOADS. Nothing in Lean hashes anything: it is a label: what it is worth is what the hold of that sum in a sandbox is worth. -/
noncomputable def Try.pinned : Pinned := { name := "ytljinkdlmfcikaa", sum := "315dfbce9da76d0a0531991dad14effbfb6971f4ac831aea29019433fd859054", checked := Try.checked }
namespace Rows
def none {H : Type} : Left H := { results := [], args := [] }

/-- 'laws.FnExactConstants': WHATEVER THE INPUT: true; the input reads as it did. -/
def fnExactConstantsSpec : ChangeSpec := { name := "fnExactConstants", fn := fun _ => fun
  | [] => { results := [.lit (.bool true)], args := [] }
  | _ => none }
def fnExactConstantsRow : OpenClaim := { program := "ytljinkdlmfcikaa", sum := "315dfbce9da76d0a0531991dad14effbfb6971f4ac831aea29019433fd859054", func := "loop.example/g00587/laws.FnExactConstants", spec := "fnExactConstants", apart := false }
def FnExactConstantsSaid : Prop := fnExactConstantsRow.holds Try.pinned (OpenSpec.ofChange fnExactConstantsSpec)

/-- ITS FALSE NEIGHBOUR: 'it returns false'. Refute it at one input. -/
def fnExactConstantsWrong : ChangeSpec := { name := "fnExactConstants", fn := fun _ => fun
  | [] => { results := [.lit (.bool false)], args := [] }
  | _ => none }
def FnExactConstantsWrongFalsely : Prop := fnExactConstantsRow.holds Try.pinned (OpenSpec.ofChange fnExactConstantsWrong)

/-- 'laws.FnExactOpArity': WHATEVER THE INPUT: true; the input reads as it did. -/
def fnExactOpAritySpec : ChangeSpec := { name := "fnExactOpArity", fn := fun _ => fun
  | [d] => { results := [.lit (.bool true)], args := [d] }
  | _ => none }
def fnExactOpArityRow : OpenClaim := { program := "ytljinkdlmfcikaa", sum := "315dfbce9da76d0a0531991dad14effbfb6971f4ac831aea29019433fd859054", func := "loop.example/g00587/laws.FnExactOpArity", spec := "fnExactOpArity", apart := false }
def FnExactOpAritySaid : Prop := fnExactOpArityRow.holds Try.pinned (OpenSpec.ofChange fnExactOpAritySpec)

/-- ITS FALSE NEIGHBOUR: 'it returns false'. Refute it at one input. -/
def fnExactOpArityWrong : ChangeSpec := { name := "fnExactOpArity", fn := fun _ => fun
  | [d] => { results := [.lit (.bool false)], args := [d] }
  | _ => none }
def FnExactOpArityWrongFalsely : Prop := fnExactOpArityRow.holds Try.pinned (OpenSpec.ofChange fnExactOpArityWrong)

/-- 'laws.FnExactIsName': WHATEVER THE INPUT: true; the input reads as it did. -/
def fnExactIsNameSpec : ChangeSpec := { name := "fnExactIsName", fn := fun _ => fun
  | [d] => { results := [.lit (.bool true)], args := [d] }
  | _ => none }
def fnExactIsNameRow : OpenClaim := { program := "ytljinkdlmfcikaa", sum := "315dfbce9da76d0a0531991dad14effbfb6971f4ac831aea29019433fd859054", func := "loop.example/g00587/laws.FnExactIsName", spec := "fnExactIsName", apart := false }
def FnExactIsNameSaid : Prop := fnExactIsNameRow.holds Try.pinned (OpenSpec.ofChange fnExactIsNameSpec)

/-- ITS FALSE NEIGHBOUR: 'it returns false'. Refute it at one input. -/
def fnExactIsNameWrong : ChangeSpec := { name := "fnExactIsName", fn := fun _ => fun
  | [d] => { results := [.lit (.bool false)], args := [d] }
  | _ => none }
def FnExactIsNameWrongFalsely : Prop := fnExactIsNameRow.holds Try.pinned (OpenSpec.ofChange fnExactIsNameWrong)

/-- 'laws.FnExactAreAscending': WHATEVER THE INPUT: true; the input reads as it did. -/
def fnExactAreAscendingSpec : ChangeSpec := { name := "fnExactAreAscending", fn := fun _ => fun
  | [d] => { results := [.lit (.bool true)], args := [d] }
  | _ => none }
def fnExactAreAscendingRow : OpenClaim := { program := "ytljinkdlmfcikaa", sum := "315dfbce9da76d0a0531991dad14effbfb6971f4ac831aea29019433fd859054", func := "loop.example/g00587/laws.FnExactAreAscending", spec := "fnExactAreAscending", apart := false }
def FnExactAreAscendingSaid : Prop := fnExactAreAscendingRow.holds Try.pinned (OpenSpec.ofChange fnExactAreAscendingSpec)

/-- ITS FALSE NEIGHBOUR: 'it returns false'. Refute it at one input. -/
def fnExactAreAscendingWrong : ChangeSpec := { name := "fnExactAreAscending", fn := fun _ => fun
  | [d] => { results := [.lit (.bool false)], args := [d] }
  | _ => none }
def FnExactAreAscendingWrongFalsely : Prop := fnExactAreAscendingRow.holds Try.pinned (OpenSpec.ofChange fnExactAreAscendingWrong)

/-- 'laws.FnExactIndexOf': WHATEVER THE INPUT: true; the input reads as it did. -/
def fnExactIndexOfSpec : ChangeSpec := { name := "fnExactIndexOf", fn := fun _ => fun
  | [d1, d2] => { results := [.lit (.bool true)], args := [d1, d2] }
  | _ => none }
def fnExactIndexOfRow : OpenClaim := { program := "ytljinkdlmfcikaa", sum := "315dfbce9da76d0a0531991dad14effbfb6971f4ac831aea29019433fd859054", func := "loop.example/g00587/laws.FnExactIndexOf", spec := "fnExactIndexOf", apart := false }
def FnExactIndexOfSaid : Prop := fnExactIndexOfRow.holds Try.pinned (OpenSpec.ofChange fnExactIndexOfSpec)

/-- ITS FALSE NEIGHBOUR: 'it returns false'. Refute it at one input. -/
def fnExactIndexOfWrong : ChangeSpec := { name := "fnExactIndexOf", fn := fun _ => fun
  | [d1, d2] => { results := [.lit (.bool false)], args := [d1, d2] }
  | _ => none }
def FnExactIndexOfWrongFalsely : Prop := fnExactIndexOfRow.holds Try.pinned (OpenSpec.ofChange fnExactIndexOfWrong)

/-- 'laws.FnExactSizeOfType': WHATEVER THE INPUT: true; the input reads as it did. -/
def fnExactSizeOfTypeSpec : ChangeSpec := { name := "fnExactSizeOfType", fn := fun _ => fun
  | [d] => { results := [.lit (.bool true)], args := [d] }
  | _ => none }
def fnExactSizeOfTypeRow : OpenClaim := { program := "ytljinkdlmfcikaa", sum := "315dfbce9da76d0a0531991dad14effbfb6971f4ac831aea29019433fd859054", func := "loop.example/g00587/laws.FnExactSizeOfType", spec := "fnExactSizeOfType", recurses := true, loops := true, apart := false }
def FnExactSizeOfTypeSaid : Prop := fnExactSizeOfTypeRow.holds Try.pinned (OpenSpec.ofChange fnExactSizeOfTypeSpec)

/-- ITS FALSE NEIGHBOUR: 'it returns false'. Refute it at one input. -/
def fnExactSizeOfTypeWrong : ChangeSpec := { name := "fnExactSizeOfType", fn := fun _ => fun
  | [d] => { results := [.lit (.bool false)], args := [d] }
  | _ => none }
def FnExactSizeOfTypeWrongFalsely : Prop := fnExactSizeOfTypeRow.holds Try.pinned (OpenSpec.ofChange fnExactSizeOfTypeWrong)

/-- 'laws.FnExactSizeOfValue': WHATEVER THE INPUT: true; the input reads as it did. -/
def fnExactSizeOfValueSpec : ChangeSpec := { name := "fnExactSizeOfValue", fn := fun _ => fun
  | [d] => { results := [.lit (.bool true)], args := [d] }
  | _ => none }
def fnExactSizeOfValueRow : OpenClaim := { program := "ytljinkdlmfcikaa", sum := "315dfbce9da76d0a0531991dad14effbfb6971f4ac831aea29019433fd859054", func := "loop.example/g00587/laws.FnExactSizeOfValue", spec := "fnExactSizeOfValue", recurses := true, loops := true, apart := false }
def FnExactSizeOfValueSaid : Prop := fnExactSizeOfValueRow.holds Try.pinned (OpenSpec.ofChange fnExactSizeOfValueSpec)

/-- ITS FALSE NEIGHBOUR: 'it returns false'. Refute it at one input. -/
def fnExactSizeOfValueWrong : ChangeSpec := { name := "fnExactSizeOfValue", fn := fun _ => fun
  | [d] => { results := [.lit (.bool false)], args := [d] }
  | _ => none }
def FnExactSizeOfValueWrongFalsely : Prop := fnExactSizeOfValueRow.holds Try.pinned (OpenSpec.ofChange fnExactSizeOfValueWrong)

/- THE SECOND FORM. 'bulk': how many values and letters a reading holds, each counted each time it is reached (what is shared counts as often as it is met; a slice's spare places count too). A statement '..UptoSaid' is the law's where the arguments, and the package variables that the reading takes, are together of bulk at most 1048576: NARROWER than '..Said'. Prove '..Said' where nothing that the law and all that it calls make is longer than what came in: it says more and counts as full. Else prove '..UptoSaid'. A law counts once. -/
mutual
def uptoBulk {H : Type} : DataW H → Nat
  | .lit (.string bytes) => bytes.length + 1
  | .lit _ => 1
  | .nil => 1
  | .ptr d => uptoBulk d + 1
  | .slice elems spare => uptoBulkAll elems + uptoBulkAll spare + 1
  | .agg parts => uptoBulkAll parts + 1
  | .iface _ d => uptoBulk d + 1
  | .map entries => uptoBulkEntries entries + 1
  | .held _ => 1
def uptoBulkAll {H : Type} : List (DataW H) → Nat
  | [] => 0
  | d :: r => uptoBulk d + uptoBulkAll r
def uptoBulkEntries {H : Type} : List (Lit × DataW H) → Nat
  | [] => 0
  | x :: r => uptoBulkEntry x + uptoBulkEntries r
def uptoBulkEntry {H : Type} : Lit × DataW H → Nat
  | (.string bytes, d) => bytes.length + uptoBulk d + 1
  | (_, d) => uptoBulk d + 1
 end
def uptoSmall : (H : Type) → List (DataW H) → Bool := fun _ ds => decide (uptoBulkAll ds ≤ 1048576)
def OpenSpec.upto (s : _root_.Go.ChangeSpec) : _root_.Go.OpenSpec := { _root_.Go.OpenSpec.ofChange s with cond := some uptoSmall }

/-- 'laws.FnExactConstants', WHERE WHAT IT READS IS OF BULK AT MOST 1048576: true; the input reads as it did. -/
def fnExactConstantsUptoRow : OpenClaim := { program := "ytljinkdlmfcikaa", sum := "315dfbce9da76d0a0531991dad14effbfb6971f4ac831aea29019433fd859054", func := "loop.example/g00587/laws.FnExactConstants", spec := "fnExactConstants", apart := false, narrowed := true }
def FnExactConstantsUptoSaid : Prop := fnExactConstantsUptoRow.holds Try.pinned (OpenSpec.upto fnExactConstantsSpec)

/-- 'laws.FnExactOpArity', WHERE WHAT IT READS IS OF BULK AT MOST 1048576: true; the input reads as it did. -/
def fnExactOpArityUptoRow : OpenClaim := { program := "ytljinkdlmfcikaa", sum := "315dfbce9da76d0a0531991dad14effbfb6971f4ac831aea29019433fd859054", func := "loop.example/g00587/laws.FnExactOpArity", spec := "fnExactOpArity", apart := false, narrowed := true }
def FnExactOpArityUptoSaid : Prop := fnExactOpArityUptoRow.holds Try.pinned (OpenSpec.upto fnExactOpAritySpec)

/-- 'laws.FnExactIsName', WHERE WHAT IT READS IS OF BULK AT MOST 1048576: true; the input reads as it did. -/
def fnExactIsNameUptoRow : OpenClaim := { program := "ytljinkdlmfcikaa", sum := "315dfbce9da76d0a0531991dad14effbfb6971f4ac831aea29019433fd859054", func := "loop.example/g00587/laws.FnExactIsName", spec := "fnExactIsName", apart := false, narrowed := true }
def FnExactIsNameUptoSaid : Prop := fnExactIsNameUptoRow.holds Try.pinned (OpenSpec.upto fnExactIsNameSpec)

/-- 'laws.FnExactAreAscending', WHERE WHAT IT READS IS OF BULK AT MOST 1048576: true; the input reads as it did. -/
def fnExactAreAscendingUptoRow : OpenClaim := { program := "ytljinkdlmfcikaa", sum := "315dfbce9da76d0a0531991dad14effbfb6971f4ac831aea29019433fd859054", func := "loop.example/g00587/laws.FnExactAreAscending", spec := "fnExactAreAscending", apart := false, narrowed := true }
def FnExactAreAscendingUptoSaid : Prop := fnExactAreAscendingUptoRow.holds Try.pinned (OpenSpec.upto fnExactAreAscendingSpec)

/-- 'laws.FnExactIndexOf', WHERE WHAT IT READS IS OF BULK AT MOST 1048576: true; the input reads as it did. -/
def fnExactIndexOfUptoRow : OpenClaim := { program := "ytljinkdlmfcikaa", sum := "315dfbce9da76d0a0531991dad14effbfb6971f4ac831aea29019433fd859054", func := "loop.example/g00587/laws.FnExactIndexOf", spec := "fnExactIndexOf", apart := false, narrowed := true }
def FnExactIndexOfUptoSaid : Prop := fnExactIndexOfUptoRow.holds Try.pinned (OpenSpec.upto fnExactIndexOfSpec)

/-- 'laws.FnExactSizeOfType', WHERE WHAT IT READS IS OF BULK AT MOST 1048576: true; the input reads as it did. -/
def fnExactSizeOfTypeUptoRow : OpenClaim := { program := "ytljinkdlmfcikaa", sum := "315dfbce9da76d0a0531991dad14effbfb6971f4ac831aea29019433fd859054", func := "loop.example/g00587/laws.FnExactSizeOfType", spec := "fnExactSizeOfType", recurses := true, loops := true, apart := false, narrowed := true }
def FnExactSizeOfTypeUptoSaid : Prop := fnExactSizeOfTypeUptoRow.holds Try.pinned (OpenSpec.upto fnExactSizeOfTypeSpec)

/-- 'laws.FnExactSizeOfValue', WHERE WHAT IT READS IS OF BULK AT MOST 1048576: true; the input reads as it did. -/
def fnExactSizeOfValueUptoRow : OpenClaim := { program := "ytljinkdlmfcikaa", sum := "315dfbce9da76d0a0531991dad14effbfb6971f4ac831aea29019433fd859054", func := "loop.example/g00587/laws.FnExactSizeOfValue", spec := "fnExactSizeOfValue", recurses := true, loops := true, apart := false, narrowed := true }
def FnExactSizeOfValueUptoSaid : Prop := fnExactSizeOfValueUptoRow.holds Try.pinned (OpenSpec.upto fnExactSizeOfValueSpec)

end Rows
end Go.Proofs.Ytljinkdlmfcikaa
