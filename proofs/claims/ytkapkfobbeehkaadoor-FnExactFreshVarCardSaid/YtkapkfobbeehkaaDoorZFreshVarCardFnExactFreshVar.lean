/- The tied card of FnExactFreshVar. No condition. -/
import Derived.Test.YtkapkfobbeehkaaDoorZFreshVarPlM
import Derived.Test.YtkapkfobbeehkaaDoorTie
import Derived.Test.YtkapkfobbeehkaaDoorCards
import Derived.SevenTiedAt
namespace Go.Proofs.YtkapkfobbeehkaaDoor
open Go
theorem fnExactFreshVarCard_holds : Rows.FnExactFreshVarCardSaid :=
  Claim7.holds_tied_plain_at .later [] [.data, .data, .data] true (true, "34b32866d0d8bd6857570a3c7f1b9604d03f70f207c602fa683e5986e45225f5") true
    fnExactFreshVar_holds (fun _ h => by cases h) (by kernel_rfl) (fun _ h => by cases h) fnExactFreshVar_row_tie rfl ⟨rfl, rfl⟩ (by kernel_rfl) rfl
    (fun f fn hf hfn => by
      obtain rfl : f = 8 := Option.some.inj ((show Tryd.prog.funcNamed "loop.example/g00587/laws.FnExactFreshVar" = some 8 by kernel_rfl).symm.trans hf) |>.symm
      obtain rfl : fn = Tryd.f8 := (Option.some.inj (Tryd.func8.symm.trans hfn)).symm
      refine ⟨by kernel_rfl, fun j t ht => ?_⟩
      have hall : (Tryd.f8.params.toList.all fun t => !Tryd.prog.wantsStandIn t) = true := by kernel_rfl
      have hm : t ∈ Tryd.f8.params.toList := by rw [Array.mem_toList_iff]; exact Array.mem_of_getElem? ht
      show Tryd.prog.wantsStandIn t = false
      simpa using List.all_eq_true.1 hall t hm)
    (by kernel_rfl)
#print axioms fnExactFreshVarCard_holds
end Go.Proofs.YtkapkfobbeehkaaDoor
