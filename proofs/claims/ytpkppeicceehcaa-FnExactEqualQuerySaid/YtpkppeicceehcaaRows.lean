/-
  NARROWER THAN 'FOR EVERY INPUT', by the rows' own cells (each row's printed sentence says how): FnExactCountComps: loops · FnExactDepthOfQuery: loops · FnExactEqualQuery: loops.
  DERIVED. THE GIVEN ROWS OF THIS SEAT. 3 by the template 'for every input the law returns true; each argument reads behind the call as it read before'; 0 by the template 'total and deterministic' (their statements: YtpkppeicceehcaaTotals.lean).
  GIVEN WITH THE SEED: the statements are not yours to turn. If you find one false, say at which input.
  Laid BY PROGRAM, IN A SANDBOX (cutbox-rows.mjs): the forced cells as the released guide's own fill.sh prints them over the translation a308ae42e025c5a9… (all of the seat's roots in one cut). By AI agents, Wed Nov 11 2026. No macro, syntax, notation, axiom, sorry.
-/
import Derived.Test.YtpkppeicceehcaaChecked
import GoSem.Claim
import GoSem.ClaimJoined
import GoSem.ClaimMapViews
import Derived.JoinedTies
import Derived.KernelRfl
namespace Go.Proofs.Ytpkppeicceehcaa
/- THE CELL 'sum', in the pinned program and in every row, IS THE sha256 OF THE DUMP (.gsa) THAT YtpkppeicceehcaaProg.lean LOADS. Nothing in Lean hashes anything: it is a label: what it is worth is what the hold of that sum in a sandbox is worth. -/
noncomputable def Try.pinned : Pinned := { name := "ytpkppeicceehcaa", sum := "a308ae42e025c5a9b51a8dcad4873fe7d9943e80f454a3f441c618eb20775bf6", checked := Try.checked }
namespace Rows
def none {H : Type} : Left H := { results := [], args := [] }

/-- 'laws.FnExactCountComps': WHATEVER THE INPUT: true; the input reads as it did. -/
def fnExactCountCompsSpec : ChangeSpec := { name := "fnExactCountComps", fn := fun _ => fun
  | [d] => { results := [.lit (.bool true)], args := [d] }
  | _ => none }
def fnExactCountCompsRow : OpenClaim := { program := "ytpkppeicceehcaa", sum := "a308ae42e025c5a9b51a8dcad4873fe7d9943e80f454a3f441c618eb20775bf6", func := "loop.example/g00587/laws.FnExactCountComps", spec := "fnExactCountComps", unfollowed := true, recurses := true, loops := true, apart := false }
def FnExactCountCompsSaid : Prop := fnExactCountCompsRow.holds Try.pinned (OpenSpec.ofChange fnExactCountCompsSpec)

/-- ITS FALSE NEIGHBOUR: 'it returns false'. Refute it at one input. -/
def fnExactCountCompsWrong : ChangeSpec := { name := "fnExactCountComps", fn := fun _ => fun
  | [d] => { results := [.lit (.bool false)], args := [d] }
  | _ => none }
def FnExactCountCompsWrongFalsely : Prop := fnExactCountCompsRow.holds Try.pinned (OpenSpec.ofChange fnExactCountCompsWrong)

/-- 'laws.FnExactDepthOfQuery': WHATEVER THE INPUT: true; the input reads as it did. -/
def fnExactDepthOfQuerySpec : ChangeSpec := { name := "fnExactDepthOfQuery", fn := fun _ => fun
  | [d] => { results := [.lit (.bool true)], args := [d] }
  | _ => none }
def fnExactDepthOfQueryRow : OpenClaim := { program := "ytpkppeicceehcaa", sum := "a308ae42e025c5a9b51a8dcad4873fe7d9943e80f454a3f441c618eb20775bf6", func := "loop.example/g00587/laws.FnExactDepthOfQuery", spec := "fnExactDepthOfQuery", unfollowed := true, recurses := true, loops := true, apart := false }
def FnExactDepthOfQuerySaid : Prop := fnExactDepthOfQueryRow.holds Try.pinned (OpenSpec.ofChange fnExactDepthOfQuerySpec)

/-- ITS FALSE NEIGHBOUR: 'it returns false'. Refute it at one input. -/
def fnExactDepthOfQueryWrong : ChangeSpec := { name := "fnExactDepthOfQuery", fn := fun _ => fun
  | [d] => { results := [.lit (.bool false)], args := [d] }
  | _ => none }
def FnExactDepthOfQueryWrongFalsely : Prop := fnExactDepthOfQueryRow.holds Try.pinned (OpenSpec.ofChange fnExactDepthOfQueryWrong)

/-- 'laws.FnExactEqualQuery': WHATEVER THE INPUT: true; the input reads as it did. -/
def fnExactEqualQuerySpec : ChangeSpec := { name := "fnExactEqualQuery", fn := fun _ => fun
  | [d1, d2] => { results := [.lit (.bool true)], args := [d1, d2] }
  | _ => none }
def fnExactEqualQueryRow : OpenClaim := { program := "ytpkppeicceehcaa", sum := "a308ae42e025c5a9b51a8dcad4873fe7d9943e80f454a3f441c618eb20775bf6", func := "loop.example/g00587/laws.FnExactEqualQuery", spec := "fnExactEqualQuery", unfollowed := true, recurses := true, loops := true, apart := false }
def FnExactEqualQuerySaid : Prop := fnExactEqualQueryRow.holds Try.pinned (OpenSpec.ofChange fnExactEqualQuerySpec)

/-- ITS FALSE NEIGHBOUR: 'it returns false'. Refute it at one input. -/
def fnExactEqualQueryWrong : ChangeSpec := { name := "fnExactEqualQuery", fn := fun _ => fun
  | [d1, d2] => { results := [.lit (.bool false)], args := [d1, d2] }
  | _ => none }
def FnExactEqualQueryWrongFalsely : Prop := fnExactEqualQueryRow.holds Try.pinned (OpenSpec.ofChange fnExactEqualQueryWrong)

/- THE SECOND FORM. 'bulk': how many values and letters a reading holds, each counted each time it is reached (what is shared counts as often as it is met; a slice's spare places count too). A statement '..UptoSaid' is the law's where the arguments, and the package variables that the reading takes, are together of bulk at most 1048576: NARROWER than '..Said'. Prove '..Said' where nothing that the law and all that it calls make is longer than what came in: it says more and counts as full. Else prove '..UptoSaid'. A law counts once. -/
mutual
def uptoBulk {H : Type} : DataW H → Nat
  | .lit (.string bytes) => bytes.length + 1
  | .lit _ => 1
  | .nil => 1
  | .ptr d => uptoBulk d + 1
  | .slice elems spare => uptoBulkAll elems + uptoBulkAll spare + 1
  | .agg parts => uptoBulkAll parts + 1
  | .iface _ d => uptoBulk d + 1
  | .map entries => uptoBulkEntries entries + 1
  | .held _ => 1
def uptoBulkAll {H : Type} : List (DataW H) → Nat
  | [] => 0
  | d :: r => uptoBulk d + uptoBulkAll r
def uptoBulkEntries {H : Type} : List (Lit × DataW H) → Nat
  | [] => 0
  | x :: r => uptoBulkEntry x + uptoBulkEntries r
def uptoBulkEntry {H : Type} : Lit × DataW H → Nat
  | (.string bytes, d) => bytes.length + uptoBulk d + 1
  | (_, d) => uptoBulk d + 1
 end
def uptoSmall : (H : Type) → List (DataW H) → Bool := fun _ ds => decide (uptoBulkAll ds ≤ 1048576)
def OpenSpec.upto (s : _root_.Go.ChangeSpec) : _root_.Go.OpenSpec := { _root_.Go.OpenSpec.ofChange s with cond := some uptoSmall }

/-- 'laws.FnExactCountComps', WHERE WHAT IT READS IS OF BULK AT MOST 1048576: true; the input reads as it did. -/
def fnExactCountCompsUptoRow : OpenClaim := { program := "ytpkppeicceehcaa", sum := "a308ae42e025c5a9b51a8dcad4873fe7d9943e80f454a3f441c618eb20775bf6", func := "loop.example/g00587/laws.FnExactCountComps", spec := "fnExactCountComps", unfollowed := true, recurses := true, loops := true, apart := false, narrowed := true }
def FnExactCountCompsUptoSaid : Prop := fnExactCountCompsUptoRow.holds Try.pinned (OpenSpec.upto fnExactCountCompsSpec)

/-- 'laws.FnExactDepthOfQuery', WHERE WHAT IT READS IS OF BULK AT MOST 1048576: true; the input reads as it did. -/
def fnExactDepthOfQueryUptoRow : OpenClaim := { program := "ytpkppeicceehcaa", sum := "a308ae42e025c5a9b51a8dcad4873fe7d9943e80f454a3f441c618eb20775bf6", func := "loop.example/g00587/laws.FnExactDepthOfQuery", spec := "fnExactDepthOfQuery", unfollowed := true, recurses := true, loops := true, apart := false, narrowed := true }
def FnExactDepthOfQueryUptoSaid : Prop := fnExactDepthOfQueryUptoRow.holds Try.pinned (OpenSpec.upto fnExactDepthOfQuerySpec)

/-- 'laws.FnExactEqualQuery', WHERE WHAT IT READS IS OF BULK AT MOST 1048576: true; the input reads as it did. -/
def fnExactEqualQueryUptoRow : OpenClaim := { program := "ytpkppeicceehcaa", sum := "a308ae42e025c5a9b51a8dcad4873fe7d9943e80f454a3f441c618eb20775bf6", func := "loop.example/g00587/laws.FnExactEqualQuery", spec := "fnExactEqualQuery", unfollowed := true, recurses := true, loops := true, apart := false, narrowed := true }
def FnExactEqualQueryUptoSaid : Prop := fnExactEqualQueryUptoRow.holds Try.pinned (OpenSpec.upto fnExactEqualQuerySpec)

end Rows
end Go.Proofs.Ytpkppeicceehcaa
