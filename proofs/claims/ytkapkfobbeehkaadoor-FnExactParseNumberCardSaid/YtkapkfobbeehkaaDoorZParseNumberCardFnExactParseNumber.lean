/- The tied card of FnExactParseNumber. No condition. -/
import Derived.Test.YtkapkfobbeehkaaDoorZParseNumberPiParseIM
import Derived.Test.YtkapkfobbeehkaaDoorTie
import Derived.Test.YtkapkfobbeehkaaDoorCards
import Derived.SevenTiedAt
namespace Go.Proofs.YtkapkfobbeehkaaDoor
open Go
theorem fnExactParseNumberCard_holds : Rows.FnExactParseNumberCardSaid :=
  Claim7.holds_tied_plain_at .later [] [.data, .data, .data, .sentinel, .sentinel] true (true, "34b32866d0d8bd6857570a3c7f1b9604d03f70f207c602fa683e5986e45225f5") true
    fnExactParseNumber_holds (fun _ h => by cases h) (by kernel_rfl) (fun _ h => by cases h) fnExactParseNumber_row_tie rfl ⟨rfl, rfl⟩ (by kernel_rfl) rfl
    (fun f fn hf hfn => by
      obtain rfl : f = 5 := Option.some.inj ((show Tryd.prog.funcNamed "loop.example/g00587/laws.FnExactParseNumber" = some 5 by kernel_rfl).symm.trans hf) |>.symm
      obtain rfl : fn = Tryd.f5 := (Option.some.inj (Tryd.func5.symm.trans hfn)).symm
      refine ⟨by kernel_rfl, fun j t ht => ?_⟩
      have hall : (Tryd.f5.params.toList.all fun t => !Tryd.prog.wantsStandIn t) = true := by kernel_rfl
      have hm : t ∈ Tryd.f5.params.toList := by rw [Array.mem_toList_iff]; exact Array.mem_of_getElem? ht
      show Tryd.prog.wantsStandIn t = false
      simpa using List.all_eq_true.1 hall t hm)
    (by kernel_rfl)
#print axioms fnExactParseNumberCard_holds
end Go.Proofs.YtkapkfobbeehkaaDoor
