/- The law FnExactConstants answers true: its pure statement. No condition. -/
/- The law FnExactConstants answers true: its pure statement. No condition. -/
/- The law FnExactConstants answers true: its pure statement. No condition. -/
import Derived.Test.YtljinkdlmfcikaaPx1
namespace Go.Proofs.Ytljinkdlmfcikaa.Pure
open Go.RowKit Go.Proofs.Ytljinkdlmfcikaa.Px Go.Proofs.YtljinkdlmfcikaaW.PrintWords Go.Proofs.YtljinkdlmfcikaaW.PrintLast

/-- YOURS: laws_FnExactConstants.f  = some true
What it reaches (each with k first where it has rounds; `.mono`: more rounds tell the same; `.l0`, ..: its loops, with `.mono_l`): laws_FnExactConstants.f -/
theorem FnExactConstants : laws_FnExactConstants.Pure := by
  rfl

end Go.Proofs.Ytljinkdlmfcikaa.Pure
