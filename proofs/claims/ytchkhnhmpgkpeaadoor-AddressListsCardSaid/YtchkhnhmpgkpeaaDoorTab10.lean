/- The table that strconv.Itoa reads, as a fact of the world: it stays. -/
import Derived.Test.YtchkhnhmpgkpeaaDoorShelf
import Derived.Lib.SmallJoins
import Derived.Lib.AppendIntMem
import Derived.Below
set_option linter.unusedVariables false
namespace Go.Proofs.YtchkhnhmpgkpeaaDoor.Common
open Go Go.RowKit
def Tab10 (w : Go.World) : Prop := Lib.TabIs Tryd.prog w "internal/strconv.uint64pow10" .u64 Lib.pow10Tab
theorem Tab10.named : ∃ g, Tryd.prog.globalNamed "internal/strconv.uint64pow10" = some g := Option.isSome_iff_exists.1 (by kernel_rfl)
theorem Tab10.below {w w' : World} (h : Tab10 w) (hb : Below w.heap.size w w') : Tab10 w' := by
  obtain ⟨g, hg⟩ := Tab10.named
  exact Go.Joins.tab_stays hg h hb (Nat.le_refl _)
end Go.Proofs.YtchkhnhmpgkpeaaDoor.Common
