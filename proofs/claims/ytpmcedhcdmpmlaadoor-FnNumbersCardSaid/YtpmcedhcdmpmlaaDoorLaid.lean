/- The table of powers that strconv reads, as the program's text lays it, stays where it lies. No condition. -/
import Derived.Test.YtpmcedhcdmpmlaaDoorExt
import Derived.Test.YtpmcedhcdmpmlaaDoorShelf
import Derived.Lib.SmallJoins
import Derived.Lib.AppendIntMem
import Derived.Lib.LaidTab
namespace Go.Proofs.YtpmcedhcdmpmlaaDoor.Ext
open Go.RowKit Go.Joins
theorem gPow : Tryd.prog.globalNamed "internal/strconv.uint64pow10" = some 0 := by kernel_rfl
theorem gSyn : Tryd.prog.globalNamed "strconv.ErrSyntax" = some 1 := by kernel_rfl
theorem gRan : Tryd.prog.globalNamed "strconv.ErrRange" = some 2 := by kernel_rfl
/-- The table lies as it is laid, and the two sentinels hold some error each. -/
def Laid (w : World) : Prop := Lib.TabIs Tryd.prog w "internal/strconv.uint64pow10" .u64 Lib.pow10Tab ∧ (∃ tp p, w.var? Tryd.prog "strconv.ErrSyntax" = some #[.iface tp p]) ∧ ∃ tp p, w.var? Tryd.prog "strconv.ErrRange" = some #[.iface tp p]
theorem Laid_tab {w : World} (h : Laid w) : Lib.TabIs Tryd.prog w "internal/strconv.uint64pow10" .u64 Lib.pow10Tab := h.1
theorem Laid_below {w w' : World} (h : Laid w) (hb : Below w.heap.size w w') : Laid w' := by
  obtain ⟨h1, ⟨a, b, h2⟩, c, d, h3⟩ := h
  exact ⟨Go.Joins.tab_stays gPow h1 hb (Nat.le_refl _), ⟨a, b, Go.Joins.var_stays gSyn h2 hb (Nat.le_refl _)⟩, c, d, Go.Joins.var_stays gRan h3 hb (Nat.le_refl _)⟩
theorem Laid_alloc {w : World} (h : Laid w) (o : Obj) : Laid (w.alloc o) := Laid_below h (Go.Proofs.YtpmcedhcdmpmlaaDoorW.PrintWords.below_alloc (Below.refl _ _) o)
theorem Laid_drewN {w : World} (h : Laid w) (n : Nat) : Laid (w.drewN n) := Laid_below h (Go.Proofs.YtpmcedhcdmpmlaaDoorW.PrintWords.pw_below_drewN (Below.refl _ _) n)
theorem Laid_drew {w : World} (h : Laid w) : Laid w.drew := Laid_below h (Go.Proofs.YtpmcedhcdmpmlaaDoorW.PrintWords.below_drew (Below.refl _ _))
end Go.Proofs.YtpmcedhcdmpmlaaDoor.Ext
