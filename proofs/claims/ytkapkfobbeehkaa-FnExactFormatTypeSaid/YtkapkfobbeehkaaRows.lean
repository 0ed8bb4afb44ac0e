/-
  NARROWER THAN 'FOR EVERY INPUT', by the rows' own cells (each row's printed sentence says how): FnExactFormatType: loops.
  DERIVED. THE GIVEN ROWS OF THIS SEAT. 3 by the template 'for every input the law returns true; each argument reads behind the call as it read before'; 0 by the template 'total and deterministic' (their statements: YtkapkfobbeehkaaTotals.lean).
  GIVEN WITH THE SEED: the statements are not yours to turn. If you find one false, say at which input.
  Laid BY PROGRAM, IN A SANDBOX (cutbox-rows.mjs): the forced cells as the released guide's own fill.sh prints them over the translation 5991193eabdb2695… (all of the seat's roots in one cut). By AI agents, Wed Nov 11 2026. No macro, syntax, notation, axiom, sorry.
-/
import Derived.Test.YtkapkfobbeehkaaChecked
import GoSem.Claim
import GoSem.ClaimJoined
import GoSem.ClaimMapViews
import Derived.JoinedTies
import Derived.KernelRfl
namespace Go.Proofs.Ytkapkfobbeehkaa
/- THE CELL 'sum', in the pinned program and in every row, IS THE sha256 OF THE DUMP (.gsa) THAT YtkapkfobbeehkaaProg.lean LOADS. Nothing in Lean hashes anything: it is a label: what it is worth is what the hold of that sum in a sandbox is worth. -/
noncomputable def Try.pinned : Pinned := { name := "ytkapkfobbeehkaa", sum := "5991193eabdb26951af7d92e8e171063fd13c499f9010b264e0191575552fc6d", checked := Try.checked }
namespace Rows
def none {H : Type} : Left H := { results := [], args := [] }

/-- 'laws.FnExactJoin': WHATEVER THE INPUT: true; the input reads as it did. -/
def fnExactJoinSpec : ChangeSpec := { name := "fnExactJoin", fn := fun _ => fun
  | [d1, d2] => { results := [.lit (.bool true)], args := [d1, d2] }
  | _ => none }
def fnExactJoinRow : OpenClaim := { program := "ytkapkfobbeehkaa", sum := "5991193eabdb26951af7d92e8e171063fd13c499f9010b264e0191575552fc6d", func := "loop.example/g00587/laws.FnExactJoin", spec := "fnExactJoin", inPlace := ["internal/abi.NoEscape", "internal/bytealg.MakeNoZero"], apart := false }
def FnExactJoinSaid : Prop := fnExactJoinRow.holds Try.pinned (OpenSpec.ofChange fnExactJoinSpec)

/-- ITS FALSE NEIGHBOUR: 'it returns false'. Refute it at one input. -/
def fnExactJoinWrong : ChangeSpec := { name := "fnExactJoin", fn := fun _ => fun
  | [d1, d2] => { results := [.lit (.bool false)], args := [d1, d2] }
  | _ => none }
def FnExactJoinWrongFalsely : Prop := fnExactJoinRow.holds Try.pinned (OpenSpec.ofChange fnExactJoinWrong)

/-- 'laws.FnExactFormatType': WHATEVER THE INPUT: true; the input reads as it did. -/
def fnExactFormatTypeSpec : ChangeSpec := { name := "fnExactFormatType", fn := fun _ => fun
  | [d] => { results := [.lit (.bool true)], args := [d] }
  | _ => none }
def fnExactFormatTypeRow : OpenClaim := { program := "ytkapkfobbeehkaa", sum := "5991193eabdb26951af7d92e8e171063fd13c499f9010b264e0191575552fc6d", func := "loop.example/g00587/laws.FnExactFormatType", spec := "fnExactFormatType", inPlace := ["internal/abi.NoEscape", "internal/bytealg.MakeNoZero"], unfollowed := true, recurses := true, loops := true, apart := false }
def FnExactFormatTypeSaid : Prop := fnExactFormatTypeRow.holds Try.pinned (OpenSpec.ofChange fnExactFormatTypeSpec)

/-- ITS FALSE NEIGHBOUR: 'it returns false'. Refute it at one input. -/
def fnExactFormatTypeWrong : ChangeSpec := { name := "fnExactFormatType", fn := fun _ => fun
  | [d] => { results := [.lit (.bool false)], args := [d] }
  | _ => none }
def FnExactFormatTypeWrongFalsely : Prop := fnExactFormatTypeRow.holds Try.pinned (OpenSpec.ofChange fnExactFormatTypeWrong)

/-- 'laws.FnExactUniteNames': WHATEVER THE INPUT: true; the input reads as it did. -/
def fnExactUniteNamesSpec : ChangeSpec := { name := "fnExactUniteNames", fn := fun _ => fun
  | [d1, d2] => { results := [.lit (.bool true)], args := [d1, d2] }
  | _ => none }
def fnExactUniteNamesRow : OpenClaim := { program := "ytkapkfobbeehkaa", sum := "5991193eabdb26951af7d92e8e171063fd13c499f9010b264e0191575552fc6d", func := "loop.example/g00587/laws.FnExactUniteNames", spec := "fnExactUniteNames", apart := false }
def FnExactUniteNamesSaid : Prop := fnExactUniteNamesRow.holds Try.pinned (OpenSpec.ofChange fnExactUniteNamesSpec)

/-- ITS FALSE NEIGHBOUR: 'it returns false'. Refute it at one input. -/
def fnExactUniteNamesWrong : ChangeSpec := { name := "fnExactUniteNames", fn := fun _ => fun
  | [d1, d2] => { results := [.lit (.bool false)], args := [d1, d2] }
  | _ => none }
def FnExactUniteNamesWrongFalsely : Prop := fnExactUniteNamesRow.holds Try.pinned (OpenSpec.ofChange fnExactUniteNamesWrong)

/- THE SECOND FORM. 'bulk': how many values and letters a reading holds, each counted each time it is reached (what is shared counts as often as it is met; a slice's spare places count too). A statement '..UptoSaid' is the law's where the arguments, and the package variables that the reading takes, are together of bulk at most 1048576: NARROWER than '..Said'. Prove '..Said' where nothing that the law and all that it calls make is longer than what came in: it says more and counts as full. Else prove '..UptoSaid'. A law counts once. -/
mutual
def uptoBulk {H : Type} : DataW H → Nat
  | .lit (.string bytes) => bytes.length + 1
  | .lit _ => 1
  | .nil => 1
  | .ptr d => uptoBulk d + 1
  | .slice elems spare => uptoBulkAll elems + uptoBulkAll spare + 1
  | .agg parts => uptoBulkAll parts + 1
  | .iface _ d => uptoBulk d + 1
  | .map entries => uptoBulkEntries entries + 1
  | .held _ => 1
def uptoBulkAll {H : Type} : List (DataW H) → Nat
  | [] => 0
  | d :: r => uptoBulk d + uptoBulkAll r
def uptoBulkEntries {H : Type} : List (Lit × DataW H) → Nat
  | [] => 0
  | x :: r => uptoBulkEntry x + uptoBulkEntries r
def uptoBulkEntry {H : Type} : Lit × DataW H → Nat
  | (.string bytes, d) => bytes.length + uptoBulk d + 1
  | (_, d) => uptoBulk d + 1
 end
def uptoSmall : (H : Type) → List (DataW H) → Bool := fun _ ds => decide (uptoBulkAll ds ≤ 1048576)
def OpenSpec.upto (s : _root_.Go.ChangeSpec) : _root_.Go.OpenSpec := { _root_.Go.OpenSpec.ofChange s with cond := some uptoSmall }

/-- 'laws.FnExactJoin', WHERE WHAT IT READS IS OF BULK AT MOST 1048576: true; the input reads as it did. -/
def fnExactJoinUptoRow : OpenClaim := { program := "ytkapkfobbeehkaa", sum := "5991193eabdb26951af7d92e8e171063fd13c499f9010b264e0191575552fc6d", func := "loop.example/g00587/laws.FnExactJoin", spec := "fnExactJoin", inPlace := ["internal/abi.NoEscape", "internal/bytealg.MakeNoZero"], apart := false, narrowed := true }
def FnExactJoinUptoSaid : Prop := fnExactJoinUptoRow.holds Try.pinned (OpenSpec.upto fnExactJoinSpec)

/-- 'laws.FnExactFormatType', WHERE WHAT IT READS IS OF BULK AT MOST 1048576: true; the input reads as it did. -/
def fnExactFormatTypeUptoRow : OpenClaim := { program := "ytkapkfobbeehkaa", sum := "5991193eabdb26951af7d92e8e171063fd13c499f9010b264e0191575552fc6d", func := "loop.example/g00587/laws.FnExactFormatType", spec := "fnExactFormatType", inPlace := ["internal/abi.NoEscape", "internal/bytealg.MakeNoZero"], unfollowed := true, recurses := true, loops := true, apart := false, narrowed := true }
def FnExactFormatTypeUptoSaid : Prop := fnExactFormatTypeUptoRow.holds Try.pinned (OpenSpec.upto fnExactFormatTypeSpec)

/-- 'laws.FnExactUniteNames', WHERE WHAT IT READS IS OF BULK AT MOST 1048576: true; the input reads as it did. -/
def fnExactUniteNamesUptoRow : OpenClaim := { program := "ytkapkfobbeehkaa", sum := "5991193eabdb26951af7d92e8e171063fd13c499f9010b264e0191575552fc6d", func := "loop.example/g00587/laws.FnExactUniteNames", spec := "fnExactUniteNames", apart := false, narrowed := true }
def FnExactUniteNamesUptoSaid : Prop := fnExactUniteNamesUptoRow.holds Try.pinned (OpenSpec.upto fnExactUniteNamesSpec)

end Rows
end Go.Proofs.Ytkapkfobbeehkaa
