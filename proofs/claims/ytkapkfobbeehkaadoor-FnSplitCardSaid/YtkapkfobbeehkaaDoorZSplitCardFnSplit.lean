/- The tied card of FnSplit. No condition. -/
import Derived.Test.YtkapkfobbeehkaaDoorZSplitPlM
import Derived.Test.YtkapkfobbeehkaaDoorTie
import Derived.Test.YtkapkfobbeehkaaDoorCards
import Derived.SevenTiedAt
namespace Go.Proofs.YtkapkfobbeehkaaDoor
open Go
theorem fnSplitCard_holds : Rows.FnSplitCardSaid :=
  Claim7.holds_tied_plain_at .later [] [.data, .pinned] true (true, "34b32866d0d8bd6857570a3c7f1b9604d03f70f207c602fa683e5986e45225f5") true
    fnSplit_holds (fun _ h => by cases h) (by kernel_rfl) (fun _ h => by cases h) fnSplit_row_tie rfl ⟨rfl, rfl⟩ (by kernel_rfl) rfl
    (fun f fn hf hfn => by
      obtain rfl : f = 7 := Option.some.inj ((show Tryd.prog.funcNamed "loop.example/g00587/laws.FnSplit" = some 7 by kernel_rfl).symm.trans hf) |>.symm
      obtain rfl : fn = Tryd.f7 := (Option.some.inj (Tryd.func7.symm.trans hfn)).symm
      refine ⟨by kernel_rfl, fun j t ht => ?_⟩
      have hall : (Tryd.f7.params.toList.all fun t => !Tryd.prog.wantsStandIn t) = true := by kernel_rfl
      have hm : t ∈ Tryd.f7.params.toList := by rw [Array.mem_toList_iff]; exact Array.mem_of_getElem? ht
      show Tryd.prog.wantsStandIn t = false
      simpa using List.all_eq_true.1 hall t hm)
    (by kernel_rfl)
#print axioms fnSplitCard_holds
end Go.Proofs.YtkapkfobbeehkaaDoor
