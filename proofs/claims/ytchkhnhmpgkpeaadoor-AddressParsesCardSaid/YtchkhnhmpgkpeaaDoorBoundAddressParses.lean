/- The bounds of what can be read, and the one pure statement of heptadlaw11_AddressParses. -/
import Derived.Test.YtchkhnhmpgkpeaaDoorRx13
namespace Go.Proofs.YtchkhnhmpgkpeaaDoor.R
open Go.RowKit Go.Proofs.YtchkhnhmpgkpeaaDoorW.PrintWords
def heptadlaw11_AddressParses.PureA : Prop := ∀ (a0 : ByteArray), (fun s => s.size ≤ 140737488351232) a0 → ∃ k, heptadlaw11_AddressParses.f k a0 = some true
end Go.Proofs.YtchkhnhmpgkpeaaDoor.R
