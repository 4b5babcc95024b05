/-
  No cell of these rows narrows 'for every input' (looked for: loops, veiled, ifaces, maps, wideKeys, modest, calm, conditions, laid).
  DERIVED. THE GIVEN ROWS OF THIS SEAT. 2 by the template 'for every input the law returns true; each argument reads behind the call as it read before'; 0 by the template 'total and deterministic' (their statements: YtehlmkgldcfciaaGreatTotals.lean).
  GIVEN WITH THE SEED: the statements are not yours to turn. If you find one false, say at which input.
  Laid BY PROGRAM, IN A SANDBOX (cutbox-rows.mjs): the forced cells as the released guide's own fill.sh prints them over the translation 7c88c59ed831a2aa… (all of the seat's roots in one cut). By AI agents, Wed Nov 11 2026. No macro, syntax, notation, axiom, sorry.
-/
import Derived.Test.YtehlmkgldcfciaaGreatChecked
import GoSem.Claim
import GoSem.ClaimJoined
import GoSem.ClaimMapViews
import Derived.JoinedTies
import Derived.KernelRfl
namespace Go.Proofs.YtehlmkgldcfciaaGreat
/- THE CELL 'sum', in the pinned program and in every row, IS THE sha256 OF THE DUMP (.gsa) THAT YtehlmkgldcfciaaGreatProg.lean LOADS. Nothing in Lean hashes anything: it is a label: what it is worth is what the hold of that sum in a sandbox is worth. -/
noncomputable def Tryz.pinned : Pinned := { name := "ytehlmkgldcfciaagreat", sum := "7c88c59ed831a2aa43253364ea19d9a40a5927b88212c03a981a593e7d825ef7", checked := Tryz.checked }
namespace Rows
def none {H : Type} : Left H := { results := [], args := [] }

/-- 'heptadlaw28.FilesScripts': WHATEVER THE INPUT: true; the input reads as it did. -/
def filesScriptsSpec : ChangeSpec := { name := "filesScripts", fn := fun _ => fun
  | [d] => { results := [.lit (.bool true)], args := [d] }
  | _ => none }
def filesScriptsRow : OpenClaim := { program := "ytehlmkgldcfciaagreat", sum := "7c88c59ed831a2aa43253364ea19d9a40a5927b88212c03a981a593e7d825ef7", func := "heptad/heptadlaw28.FilesScripts", spec := "filesScripts", inPlace := ["slices.overlaps[heptad/files.Unit]"], unfollowed := true, recurses := true, apart := false }
def FilesScriptsSaid : Prop := filesScriptsRow.holds Tryz.pinned (OpenSpec.ofChange filesScriptsSpec)

/-- ITS FALSE NEIGHBOUR: 'it returns false'. Refute it at one input. -/
def filesScriptsWrong : ChangeSpec := { name := "filesScripts", fn := fun _ => fun
  | [d] => { results := [.lit (.bool false)], args := [d] }
  | _ => none }
def FilesScriptsWrongFalsely : Prop := filesScriptsRow.holds Tryz.pinned (OpenSpec.ofChange filesScriptsWrong)

/-- 'heptadlaw28.FilesCopies': WHATEVER THE INPUT: true; the input reads as it did. -/
def filesCopiesSpec : ChangeSpec := { name := "filesCopies", fn := fun _ => fun
  | [d1, d2] => { results := [.lit (.bool true)], args := [d1, d2] }
  | _ => none }
def filesCopiesRow : OpenClaim := { program := "ytehlmkgldcfciaagreat", sum := "7c88c59ed831a2aa43253364ea19d9a40a5927b88212c03a981a593e7d825ef7", func := "heptad/heptadlaw28.FilesCopies", spec := "filesCopies", inPlace := ["slices.overlaps[heptad/files.Unit]", "maps.clone"], unfollowed := true, recurses := true, apart := false }
def FilesCopiesSaid : Prop := filesCopiesRow.holds Tryz.pinned (OpenSpec.ofChange filesCopiesSpec)

/-- ITS FALSE NEIGHBOUR: 'it returns false'. Refute it at one input. -/
def filesCopiesWrong : ChangeSpec := { name := "filesCopies", fn := fun _ => fun
  | [d1, d2] => { results := [.lit (.bool false)], args := [d1, d2] }
  | _ => none }
def FilesCopiesWrongFalsely : Prop := filesCopiesRow.holds Tryz.pinned (OpenSpec.ofChange filesCopiesWrong)

/- THE SECOND FORM. 'bulk': how many values and letters a reading holds, each counted each time it is reached (what is shared counts as often as it is met; a slice's spare places count too). A statement '..UptoSaid' is the law's where the arguments, and the package variables that the reading takes, are together of bulk at most 1048576: NARROWER than '..Said'. Prove '..Said' where nothing that the law and all that it calls make is longer than what came in: it says more and counts as full. Else prove '..UptoSaid'. A law counts once. -/
mutual
def uptoBulk {H : Type} : DataW H → Nat
  | .lit (.string bytes) => bytes.length + 1
  | .lit _ => 1
  | .nil => 1
  | .ptr d => uptoBulk d + 1
  | .slice elems spare => uptoBulkAll elems + uptoBulkAll spare + 1
  | .agg parts => uptoBulkAll parts + 1
  | .iface _ d => uptoBulk d + 1
  | .map entries => uptoBulkEntries entries + 1
  | .held _ => 1
def uptoBulkAll {H : Type} : List (DataW H) → Nat
  | [] => 0
  | d :: r => uptoBulk d + uptoBulkAll r
def uptoBulkEntries {H : Type} : List (Lit × DataW H) → Nat
  | [] => 0
  | x :: r => uptoBulkEntry x + uptoBulkEntries r
def uptoBulkEntry {H : Type} : Lit × DataW H → Nat
  | (.string bytes, d) => bytes.length + uptoBulk d + 1
  | (_, d) => uptoBulk d + 1
 end
def uptoSmall : (H : Type) → List (DataW H) → Bool := fun _ ds => decide (uptoBulkAll ds ≤ 1048576)
def OpenSpec.upto (s : _root_.Go.ChangeSpec) : _root_.Go.OpenSpec := { _root_.Go.OpenSpec.ofChange s with cond := some uptoSmall }

/-- 'heptadlaw28.FilesScripts', WHERE WHAT IT READS IS OF BULK AT MOST 1048576: true; the input reads as it did. -/
def filesScriptsUptoRow : OpenClaim := { program := "ytehlmkgldcfciaagreat", sum := "7c88c59ed831a2aa43253364ea19d9a40a5927b88212c03a981a593e7d825ef7", func := "heptad/heptadlaw28.FilesScripts", spec := "filesScripts", inPlace := ["slices.overlaps[heptad/files.Unit]"], unfollowed := true, recurses := true, apart := false, narrowed := true }
def FilesScriptsUptoSaid : Prop := filesScriptsUptoRow.holds Tryz.pinned (OpenSpec.upto filesScriptsSpec)

/-- 'heptadlaw28.FilesCopies', WHERE WHAT IT READS IS OF BULK AT MOST 1048576: true; the input reads as it did. -/
def filesCopiesUptoRow : OpenClaim := { program := "ytehlmkgldcfciaagreat", sum := "7c88c59ed831a2aa43253364ea19d9a40a5927b88212c03a981a593e7d825ef7", func := "heptad/heptadlaw28.FilesCopies", spec := "filesCopies", inPlace := ["slices.overlaps[heptad/files.Unit]", "maps.clone"], unfollowed := true, recurses := true, apart := false, narrowed := true }
def FilesCopiesUptoSaid : Prop := filesCopiesUptoRow.holds Tryz.pinned (OpenSpec.upto filesCopiesSpec)

end Rows
end Go.Proofs.YtehlmkgldcfciaaGreat
