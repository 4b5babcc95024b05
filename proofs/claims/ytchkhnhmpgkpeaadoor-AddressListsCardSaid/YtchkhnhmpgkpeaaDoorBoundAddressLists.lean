/- The bounds of what can be read, and the one pure statement of heptadlaw11_AddressLists. -/
import Derived.Test.YtchkhnhmpgkpeaaDoorQx16
namespace Go.Proofs.YtchkhnhmpgkpeaaDoor.Q
open Go.RowKit Go.Proofs.YtchkhnhmpgkpeaaDoorW.PrintWords
def heptadlaw11_AddressLists.PureA : Prop := ∀ (a0 : List Int) (a1 : List Int) (a2 : Int), (fun xs => xs.length ≤ 9223372036854775807 ∧ xs.length * 8 ≤ 140737488351232 ∧ ∀ x ∈ xs, (fun n => (Lit.int .i64 n).wf = true) x) a0 → (fun xs => xs.length ≤ 9223372036854775807 ∧ xs.length * 8 ≤ 140737488351232 ∧ ∀ x ∈ xs, (fun n => (Lit.int .i64 n).wf = true) x) a1 → (fun n => (Lit.int .i64 n).wf = true) a2 → ∃ k, heptadlaw11_AddressLists.f k a0 a1 a2 = some true
end Go.Proofs.YtchkhnhmpgkpeaaDoor.Q
