/- The tied card of FnExactFormatTerm. No condition. -/
import Derived.Test.YtgplgphchdgedaaDoorZFormatTermPxTeFormM
import Derived.Test.YtgplgphchdgedaaDoorTie
import Derived.Test.YtgplgphchdgedaaDoorCards
import Derived.SevenTiedAt
namespace Go.Proofs.YtgplgphchdgedaaDoor
open Go
theorem fnExactFormatTermCard_holds : Rows.FnExactFormatTermCardSaid :=
  Claim7.holds_tied_plain_at .later [] [.data, .data, .data] true (true, "231931a73a98b07558dc5295ee2b93dbffd5505450fd73d16cf133802c5ddabb") false
    fnExactFormatTerm_holds (fun _ h => by cases h) (by kernel_rfl) (fun _ h => by cases h) fnExactFormatTerm_row_tie rfl ⟨rfl, rfl⟩ (by kernel_rfl) rfl
    (fun f fn hf hfn => by
      obtain rfl : f = 3 := Option.some.inj ((show Tryd.prog.funcNamed "loop.example/g00587/laws.FnExactFormatTerm" = some 3 by kernel_rfl).symm.trans hf) |>.symm
      obtain rfl : fn = Tryd.f3 := (Option.some.inj (Tryd.func3.symm.trans hfn)).symm
      refine ⟨by kernel_rfl, fun j t ht => ?_⟩
      have hall : (Tryd.f3.params.toList.all fun t => !Tryd.prog.wantsStandIn t) = true := by kernel_rfl
      have hm : t ∈ Tryd.f3.params.toList := by rw [Array.mem_toList_iff]; exact Array.mem_of_getElem? ht
      show Tryd.prog.wantsStandIn t = false
      simpa using List.all_eq_true.1 hall t hm)
    (by kernel_rfl)
#print axioms fnExactFormatTermCard_holds
end Go.Proofs.YtgplgphchdgedaaDoor
