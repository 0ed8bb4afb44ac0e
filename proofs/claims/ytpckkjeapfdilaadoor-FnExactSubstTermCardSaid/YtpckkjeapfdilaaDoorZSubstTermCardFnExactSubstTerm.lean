/- The tied card of FnExactSubstTerm. No condition. -/
import Derived.Test.YtpckkjeapfdilaaDoorZSubstTermReadM
import Derived.Test.YtpckkjeapfdilaaDoorTie
import Derived.Test.YtpckkjeapfdilaaDoorCards
import Derived.SevenTiedAt
namespace Go.Proofs.YtpckkjeapfdilaaDoor
open Go
theorem fnExactSubstTermCard_holds : Rows.FnExactSubstTermCardSaid :=
  Claim7.holds_tied_plain_at .later [] [.data, .data, .data] true (true, "16c4b64edabfeefe0ad1251620df1494fe7c5a6ceafc2f06a295962776b8cea6") false
    fnExactSubstTerm_holds (fun _ h => by cases h) (by kernel_rfl) (fun _ h => by cases h) fnExactSubstTerm_row_tie rfl ⟨rfl, rfl⟩ (by kernel_rfl) rfl
    (fun f fn hf hfn => by
      obtain rfl : f = 3 := Option.some.inj ((show Tryd.prog.funcNamed "loop.example/g00587/laws.FnExactSubstTerm" = some 3 by kernel_rfl).symm.trans hf) |>.symm
      obtain rfl : fn = Tryd.f3 := (Option.some.inj (Tryd.func3.symm.trans hfn)).symm
      refine ⟨by kernel_rfl, fun j t ht => ?_⟩
      have hall : (Tryd.f3.params.toList.all fun t => !Tryd.prog.wantsStandIn t) = true := by kernel_rfl
      have hm : t ∈ Tryd.f3.params.toList := by rw [Array.mem_toList_iff]; exact Array.mem_of_getElem? ht
      show Tryd.prog.wantsStandIn t = false
      simpa using List.all_eq_true.1 hall t hm)
    (by kernel_rfl)
#print axioms fnExactSubstTermCard_holds
end Go.Proofs.YtpckkjeapfdilaaDoor
