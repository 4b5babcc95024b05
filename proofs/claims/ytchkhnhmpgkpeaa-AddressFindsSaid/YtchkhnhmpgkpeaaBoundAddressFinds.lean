/- The bounds of what can be read, and the one pure statement of heptadlaw11_AddressFinds. -/
import Derived.Test.YtchkhnhmpgkpeaaPx22
namespace Go.Proofs.Ytchkhnhmpgkpeaa.P
open Go.RowKit Go.Proofs.YtchkhnhmpgkpeaaW.PrintWords
def bound35 (x : S35) : Prop := (fun xs => xs.length ≤ 9223372036854775807 ∧ xs.length * 8 ≤ 140737488351232 ∧ ∀ x ∈ xs, (fun n => (Lit.int .i64 n).wf = true) x) x.f0 ∧ (fun n => (Lit.int .i64 n).wf = true) x.f1
def heptadlaw11_AddressFinds.Pure : Prop := ∀ (a0 : List (S35)) (a1 : List Int), (fun xs => xs.length ≤ 9223372036854775807 ∧ xs.length * 32 ≤ 140737488351232 ∧ ∀ x ∈ xs, bound35 x) a0 → (fun xs => xs.length ≤ 9223372036854775807 ∧ xs.length * 8 ≤ 140737488351232 ∧ ∀ x ∈ xs, (fun n => (Lit.int .i64 n).wf = true) x) a1 → ∃ k, heptadlaw11_AddressFinds.f k a0 a1 = some true
end Go.Proofs.Ytchkhnhmpgkpeaa.P
