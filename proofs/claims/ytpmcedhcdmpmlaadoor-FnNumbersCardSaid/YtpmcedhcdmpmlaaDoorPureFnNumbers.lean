/- The law FnNumbers answers true at every input: its pure statement. No condition. -/
import Derived.Test.YtpmcedhcdmpmlaaDoorPn6
import Derived.Test.YtpmcedhcdmpmlaaDoorPnNumbers
namespace Go.Proofs.YtpmcedhcdmpmlaaDoor.Pure
open Go.RowKit Go.Proofs.YtpmcedhcdmpmlaaDoor.Pn
theorem FnNumbers : laws_FnNumbers.Pure := fun l0 _ => FnNumbers_told l0
end Go.Proofs.YtpmcedhcdmpmlaaDoor.Pure
