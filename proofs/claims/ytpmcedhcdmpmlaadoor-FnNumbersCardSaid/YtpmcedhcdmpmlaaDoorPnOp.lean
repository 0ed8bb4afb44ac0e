/- Printed by a program of this session: what functions of the translation come to, each contract as it stands. No condition. -/
import Derived.Test.YtpmcedhcdmpmlaaDoorPn0
import Derived.Test.YtpmcedhcdmpmlaaDoorRead
namespace Go.Proofs.YtpmcedhcdmpmlaaDoor.Pn
open Go.RowKit Go.Proofs.YtpmcedhcdmpmlaaDoor.Ext Go.Proofs.YtpmcedhcdmpmlaaDoorW.PrintWords Go.Proofs.YtpmcedhcdmpmlaaDoorW.PrintLast Go.Proofs.YtpmcedhcdmpmlaaDoorW.PrintMore Go.Proofs.YtpmcedhcdmpmlaaDoor
set_option linter.unusedVariables false
set_option linter.unusedSimpArgs false

end Go.Proofs.YtpmcedhcdmpmlaaDoor.Pn
