/- A test as a number. No condition. -/
import Derived.Test.YtipjapiifnoimaaPe1
import Derived.Test.YtipjapiifnoimaaPl
namespace Go.Proofs.Ytipjapiifnoimaa.Pe
open Go.RowKit Go.Proofs.YtipjapiifnoimaaW.PrintWords Go.Proofs.YtipjapiifnoimaaW.PrintLast Go.Proofs.Ytipjapiifnoimaa.Pl
set_option linter.unusedVariables false
set_option linter.unusedSimpArgs false
theorem spec_l1Bit_eq (b : Bool) : spec_l1Bit.f b = some (if b = true then 1 else 0) := by
  unfold spec_l1Bit.f; split <;> rfl

end Go.Proofs.Ytipjapiifnoimaa.Pe
