/- What strconv.Itoa and strconv.Atoi read, as a fact of the world: it stays. -/
import Derived.Test.YtehlmkgldcfciaaDoorShelf
import Derived.Lib.SmallJoins
import Derived.Lib.AppendIntMem
import Derived.Below
set_option linter.unusedVariables false
namespace Go.Proofs.YtehlmkgldcfciaaDoor.Common
open Go Go.RowKit
def Tab10 (w : Go.World) : Prop := Lib.TabIs Tryd.prog w "internal/strconv.uint64pow10" .u64 Lib.pow10Tab ∧
  (∃ tp p, w.var? Tryd.prog "strconv.ErrSyntax" = some #[.iface tp p]) ∧ ∃ tp p, w.var? Tryd.prog "strconv.ErrRange" = some #[.iface tp p]
theorem Tab10.named {s : String} (h : (Tryd.prog.globalNamed s).isSome = true) : ∃ g, Tryd.prog.globalNamed s = some g := Option.isSome_iff_exists.1 h
theorem Tab10.below {w w' : World} (h : Tab10 w) (hb : Below w.heap.size w w') : Tab10 w' := by
  obtain ⟨h1, ⟨t2, p2, h2⟩, t3, p3, h3⟩ := h
  obtain ⟨g1, hg1⟩ := Tab10.named (s := "internal/strconv.uint64pow10") (by kernel_rfl)
  obtain ⟨g2, hg2⟩ := Tab10.named (s := "strconv.ErrSyntax") (by kernel_rfl)
  obtain ⟨g3, hg3⟩ := Tab10.named (s := "strconv.ErrRange") (by kernel_rfl)
  exact ⟨Go.Joins.tab_stays hg1 h1 hb (Nat.le_refl _), ⟨t2, p2, Go.Joins.var_stays hg2 h2 hb (Nat.le_refl _)⟩, t3, p3, Go.Joins.var_stays hg3 h3 hb (Nat.le_refl _)⟩
theorem Tab10.tab {w : World} (h : Tab10 w) : Lib.TabIs Tryd.prog w "internal/strconv.uint64pow10" .u64 Lib.pow10Tab := h.1
end Go.Proofs.YtehlmkgldcfciaaDoor.Common
