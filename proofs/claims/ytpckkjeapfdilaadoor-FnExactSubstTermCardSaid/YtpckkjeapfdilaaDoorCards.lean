/-
  DERIVED. GIVEN WITH THE SEED: THE CARDS: each row of YtpckkjeapfdilaaDoorRows.lean that lists a variable, with what it lists TIED to the program's text (the seventh form; the later family's looks); each row that meets fmt, with fmt's text TOLD by the authors' own Lean function (tested against real Go, not proved from fmt's source: count such statements apart). THE CARD IS WHAT COUNTS. Prove the row's statement (the work); the ties are given (YtpckkjeapfdilaaDoorTie.lean); close each card by the builder's one call (the guide's Derived/Test/ToyasCard.lean, 'card_holds'). Laid BY PROGRAM, IN A SANDBOX (cutbox-door.mjs). By AI agents, Wed Nov 11 2026. No macro, syntax, notation, axiom, sorry.
-/
import Derived.Test.YtpckkjeapfdilaaDoorRows
import GoSem.ClaimSeven
namespace Go.Proofs.YtpckkjeapfdilaaDoor
namespace Rows

/-- THE TIED CARD OF 'laws.FnExactSubstTerm'. -/
def fnExactSubstTermCard : Claim7 := { stood := { row := fnExactSubstTermRow, standIns := [], harness := (true, "16c4b64edabfeefe0ad1251620df1494fe7c5a6ceafc2f06a295962776b8cea6"), looks := false }, kinds := [], alts := [], laidByText := true, laidKinds := [.data, .data, .data], laidTests := true, laidLooks := .later }
def FnExactSubstTermCardSaid : Prop := Claim7.holds Tryd.pinned (.plain (OpenSpec.ofChange fnExactSubstTermSpec)) fnExactSubstTermCard

/-- THE SECOND FORM's CARD OF 'laws.FnExactSubstTerm'. -/
def fnExactSubstTermUptoCard : Claim7 := { stood := { row := fnExactSubstTermUptoRow, standIns := [], harness := (true, "16c4b64edabfeefe0ad1251620df1494fe7c5a6ceafc2f06a295962776b8cea6"), looks := false }, kinds := [], alts := [], laidByText := true, laidKinds := [.data, .data, .data], laidTests := true, laidLooks := .later }
def FnExactSubstTermUptoCardSaid : Prop := Claim7.holds Tryd.pinned (.plain (OpenSpec.upto fnExactSubstTermSpec)) fnExactSubstTermUptoCard
end Rows
end Go.Proofs.YtpckkjeapfdilaaDoor
