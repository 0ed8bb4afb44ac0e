/- The tied card of FnNumbers. No condition. -/
import Derived.Test.YtpmcedhcdmpmlaaDoorLawFnNumbers
import Derived.Test.YtpmcedhcdmpmlaaDoorTie
import Derived.Test.YtpmcedhcdmpmlaaDoorCards
import Derived.SevenTiedAt
namespace Go.Proofs.YtpmcedhcdmpmlaaDoor
open Go
theorem fnNumbersCard_holds : Rows.FnNumbersCardSaid :=
  Claim7.holds_tied_plain_at .later [] [.data, .data, .data, .sentinel, .sentinel] true (true, "ff16a4d79f0725568613ab061cac5f8899143cc126f24ba0faf6d34577abfe09") true
    fnNumbers_holds (fun _ h => by cases h) (by kernel_rfl) (fun _ h => by cases h) fnNumbers_row_tie rfl ⟨rfl, rfl⟩ (by kernel_rfl) rfl
    (fun f fn hf hfn => by
      obtain rfl : f = 3 := Option.some.inj ((show Tryd.prog.funcNamed "loop.example/g00587/laws.FnNumbers" = some 3 by kernel_rfl).symm.trans hf) |>.symm
      obtain rfl : fn = Tryd.f3 := (Option.some.inj (Tryd.func3.symm.trans hfn)).symm
      refine ⟨by kernel_rfl, fun j t ht => ?_⟩
      have hall : (Tryd.f3.params.toList.all fun t => !Tryd.prog.wantsStandIn t) = true := by kernel_rfl
      have hm : t ∈ Tryd.f3.params.toList := by rw [Array.mem_toList_iff]; exact Array.mem_of_getElem? ht
      show Tryd.prog.wantsStandIn t = false
      simpa using List.all_eq_true.1 hall t hm)
    (by kernel_rfl)
#print axioms fnNumbersCard_holds
end Go.Proofs.YtpmcedhcdmpmlaaDoor
