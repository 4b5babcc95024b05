/- The bounds of what can be read, and the one pure statement of heptadlaw11_AddressChanges. -/
import Derived.Test.YtchkhnhmpgkpeaaPx25
namespace Go.Proofs.Ytchkhnhmpgkpeaa.P
open Go.RowKit Go.Proofs.YtchkhnhmpgkpeaaW.PrintWords
def bound35 (x : S35) : Prop := (fun xs => xs.length ≤ 9223372036854775807 ∧ xs.length * 8 ≤ 140737488351232 ∧ ∀ x ∈ xs, (fun n => (Lit.int .i64 n).wf = true) x) x.f0 ∧ (fun n => (Lit.int .i64 n).wf = true) x.f1
def heptadlaw11_AddressChanges.Pure : Prop := ∀ (a0 : List (S35)) (a1 : S35) (a2 : List Int), (fun xs => xs.length ≤ 9223372036854775807 ∧ xs.length * 32 ≤ 140737488351232 ∧ ∀ x ∈ xs, bound35 x) a0 → bound35 a1 → (fun xs => xs.length ≤ 9223372036854775807 ∧ xs.length * 8 ≤ 140737488351232 ∧ ∀ x ∈ xs, (fun n => (Lit.int .i64 n).wf = true) x) a2 → ∃ k, heptadlaw11_AddressChanges.f k a0 a1.f0 a1.f1 a2 = some true
end Go.Proofs.Ytchkhnhmpgkpeaa.P
