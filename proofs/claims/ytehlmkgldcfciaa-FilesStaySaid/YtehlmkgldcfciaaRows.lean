/-
  No cell of these rows narrows 'for every input' (looked for: loops, veiled, ifaces, maps, wideKeys, modest, calm, conditions, laid).
  DERIVED. THE GIVEN ROWS OF THIS SEAT. 4 by the template 'for every input the law returns true; each argument reads behind the call as it read before'; 0 by the template 'total and deterministic' (their statements: YtehlmkgldcfciaaTotals.lean).
  GIVEN WITH THE SEED: the statements are not yours to turn. If you find one false, say at which input.
  Laid BY PROGRAM, IN A SANDBOX (cutbox-rows.mjs): the forced cells as the released guide's own fill.sh prints them over the translation fc0fdef4998e42e9… (all of the seat's roots in one cut). By AI agents, Wed Nov 11 2026. No macro, syntax, notation, axiom, sorry.
-/
import Derived.Test.YtehlmkgldcfciaaChecked
import GoSem.Claim
import GoSem.ClaimJoined
import GoSem.ClaimMapViews
import Derived.JoinedTies
import Derived.KernelRfl
namespace Go.Proofs.Ytehlmkgldcfciaa
/- THE CELL 'sum', in the pinned program and in every row, IS THE sha256 OF THE DUMP (.gsa) THAT YtehlmkgldcfciaaProg.lean LOADS. Nothing in Lean hashes anything: it is a label: what it is worth is what the hold of that sum in a sandbox is worth. -/
noncomputable def Try.pinned : Pinned := { name := "ytehlmkgldcfciaa", sum := "fc0fdef4998e42e9425c269ca315004824f07f9f09301656e3d1f9c55993d04a", checked := Try.checked }
namespace Rows
def none {H : Type} : Left H := { results := [], args := [] }

/-- 'heptadlaw28.FilesValid': WHATEVER THE INPUT: true; the input reads as it did. -/
def filesValidSpec : ChangeSpec := { name := "filesValid", fn := fun _ => fun
  | [d1, d2] => { results := [.lit (.bool true)], args := [d1, d2] }
  | _ => none }
def filesValidRow : OpenClaim := { program := "ytehlmkgldcfciaa", sum := "fc0fdef4998e42e9425c269ca315004824f07f9f09301656e3d1f9c55993d04a", func := "heptad/heptadlaw28.FilesValid", spec := "filesValid", inPlace := ["slices.overlaps[heptad/files.Unit]"], unfollowed := true, recurses := true, apart := false }
def FilesValidSaid : Prop := filesValidRow.holds Try.pinned (OpenSpec.ofChange filesValidSpec)

/-- ITS FALSE NEIGHBOUR: 'it returns false'. Refute it at one input. -/
def filesValidWrong : ChangeSpec := { name := "filesValid", fn := fun _ => fun
  | [d1, d2] => { results := [.lit (.bool false)], args := [d1, d2] }
  | _ => none }
def FilesValidWrongFalsely : Prop := filesValidRow.holds Try.pinned (OpenSpec.ofChange filesValidWrong)

/-- 'heptadlaw28.FilesAlone': WHATEVER THE INPUT: true; the input reads as it did. -/
def filesAloneSpec : ChangeSpec := { name := "filesAlone", fn := fun _ => fun
  | [d1, d2, d3, d4] => { results := [.lit (.bool true)], args := [d1, d2, d3, d4] }
  | _ => none }
def filesAloneRow : OpenClaim := { program := "ytehlmkgldcfciaa", sum := "fc0fdef4998e42e9425c269ca315004824f07f9f09301656e3d1f9c55993d04a", func := "heptad/heptadlaw28.FilesAlone", spec := "filesAlone", inPlace := ["slices.overlaps[heptad/files.Unit]"], unfollowed := true, recurses := true, apart := false }
def FilesAloneSaid : Prop := filesAloneRow.holds Try.pinned (OpenSpec.ofChange filesAloneSpec)

/-- ITS FALSE NEIGHBOUR: 'it returns false'. Refute it at one input. -/
def filesAloneWrong : ChangeSpec := { name := "filesAlone", fn := fun _ => fun
  | [d1, d2, d3, d4] => { results := [.lit (.bool false)], args := [d1, d2, d3, d4] }
  | _ => none }
def FilesAloneWrongFalsely : Prop := filesAloneRow.holds Try.pinned (OpenSpec.ofChange filesAloneWrong)

/-- 'heptadlaw28.FilesStay': WHATEVER THE INPUT: true; the input reads as it did. -/
def filesStaySpec : ChangeSpec := { name := "filesStay", fn := fun _ => fun
  | [d] => { results := [.lit (.bool true)], args := [d] }
  | _ => none }
def filesStayRow : OpenClaim := { program := "ytehlmkgldcfciaa", sum := "fc0fdef4998e42e9425c269ca315004824f07f9f09301656e3d1f9c55993d04a", func := "heptad/heptadlaw28.FilesStay", spec := "filesStay", inPlace := ["slices.overlaps[heptad/files.Unit]", "maps.clone"], unfollowed := true, recurses := true, apart := false }
def FilesStaySaid : Prop := filesStayRow.holds Try.pinned (OpenSpec.ofChange filesStaySpec)

/-- ITS FALSE NEIGHBOUR: 'it returns false'. Refute it at one input. -/
def filesStayWrong : ChangeSpec := { name := "filesStay", fn := fun _ => fun
  | [d] => { results := [.lit (.bool false)], args := [d] }
  | _ => none }
def FilesStayWrongFalsely : Prop := filesStayRow.holds Try.pinned (OpenSpec.ofChange filesStayWrong)

/-- 'heptadlaw28.FilesNil': WHATEVER THE INPUT: true; the input reads as it did. -/
def filesNilSpec : ChangeSpec := { name := "filesNil", fn := fun _ => fun
  | [d] => { results := [.lit (.bool true)], args := [d] }
  | _ => none }
def filesNilRow : OpenClaim := { program := "ytehlmkgldcfciaa", sum := "fc0fdef4998e42e9425c269ca315004824f07f9f09301656e3d1f9c55993d04a", func := "heptad/heptadlaw28.FilesNil", spec := "filesNil", inPlace := ["slices.overlaps[heptad/files.Unit]", "maps.clone"], unfollowed := true, recurses := true, apart := false }
def FilesNilSaid : Prop := filesNilRow.holds Try.pinned (OpenSpec.ofChange filesNilSpec)

/-- ITS FALSE NEIGHBOUR: 'it returns false'. Refute it at one input. -/
def filesNilWrong : ChangeSpec := { name := "filesNil", fn := fun _ => fun
  | [d] => { results := [.lit (.bool false)], args := [d] }
  | _ => none }
def FilesNilWrongFalsely : Prop := filesNilRow.holds Try.pinned (OpenSpec.ofChange filesNilWrong)

/- THE SECOND FORM. 'bulk': how many values and letters a reading holds, each counted each time it is reached (what is shared counts as often as it is met; a slice's spare places count too). A statement '..UptoSaid' is the law's where the arguments, and the package variables that the reading takes, are together of bulk at most 1048576: NARROWER than '..Said'. Prove '..Said' where nothing that the law and all that it calls make is longer than what came in: it says more and counts as full. Else prove '..UptoSaid'. A law counts once. -/
mutual
def uptoBulk {H : Type} : DataW H → Nat
  | .lit (.string bytes) => bytes.length + 1
  | .lit _ => 1
  | .nil => 1
  | .ptr d => uptoBulk d + 1
  | .slice elems spare => uptoBulkAll elems + uptoBulkAll spare + 1
  | .agg parts => uptoBulkAll parts + 1
  | .iface _ d => uptoBulk d + 1
  | .map entries => uptoBulkEntries entries + 1
  | .held _ => 1
def uptoBulkAll {H : Type} : List (DataW H) → Nat
  | [] => 0
  | d :: r => uptoBulk d + uptoBulkAll r
def uptoBulkEntries {H : Type} : List (Lit × DataW H) → Nat
  | [] => 0
  | x :: r => uptoBulkEntry x + uptoBulkEntries r
def uptoBulkEntry {H : Type} : Lit × DataW H → Nat
  | (.string bytes, d) => bytes.length + uptoBulk d + 1
  | (_, d) => uptoBulk d + 1
 end
def uptoSmall : (H : Type) → List (DataW H) → Bool := fun _ ds => decide (uptoBulkAll ds ≤ 1048576)
def OpenSpec.upto (s : _root_.Go.ChangeSpec) : _root_.Go.OpenSpec := { _root_.Go.OpenSpec.ofChange s with cond := some uptoSmall }

/-- 'heptadlaw28.FilesValid', WHERE WHAT IT READS IS OF BULK AT MOST 1048576: true; the input reads as it did. -/
def filesValidUptoRow : OpenClaim := { program := "ytehlmkgldcfciaa", sum := "fc0fdef4998e42e9425c269ca315004824f07f9f09301656e3d1f9c55993d04a", func := "heptad/heptadlaw28.FilesValid", spec := "filesValid", inPlace := ["slices.overlaps[heptad/files.Unit]"], unfollowed := true, recurses := true, apart := false, narrowed := true }
def FilesValidUptoSaid : Prop := filesValidUptoRow.holds Try.pinned (OpenSpec.upto filesValidSpec)

/-- 'heptadlaw28.FilesAlone', WHERE WHAT IT READS IS OF BULK AT MOST 1048576: true; the input reads as it did. -/
def filesAloneUptoRow : OpenClaim := { program := "ytehlmkgldcfciaa", sum := "fc0fdef4998e42e9425c269ca315004824f07f9f09301656e3d1f9c55993d04a", func := "heptad/heptadlaw28.FilesAlone", spec := "filesAlone", inPlace := ["slices.overlaps[heptad/files.Unit]"], unfollowed := true, recurses := true, apart := false, narrowed := true }
def FilesAloneUptoSaid : Prop := filesAloneUptoRow.holds Try.pinned (OpenSpec.upto filesAloneSpec)

/-- 'heptadlaw28.FilesStay', WHERE WHAT IT READS IS OF BULK AT MOST 1048576: true; the input reads as it did. -/
def filesStayUptoRow : OpenClaim := { program := "ytehlmkgldcfciaa", sum := "fc0fdef4998e42e9425c269ca315004824f07f9f09301656e3d1f9c55993d04a", func := "heptad/heptadlaw28.FilesStay", spec := "filesStay", inPlace := ["slices.overlaps[heptad/files.Unit]", "maps.clone"], unfollowed := true, recurses := true, apart := false, narrowed := true }
def FilesStayUptoSaid : Prop := filesStayUptoRow.holds Try.pinned (OpenSpec.upto filesStaySpec)

/-- 'heptadlaw28.FilesNil', WHERE WHAT IT READS IS OF BULK AT MOST 1048576: true; the input reads as it did. -/
def filesNilUptoRow : OpenClaim := { program := "ytehlmkgldcfciaa", sum := "fc0fdef4998e42e9425c269ca315004824f07f9f09301656e3d1f9c55993d04a", func := "heptad/heptadlaw28.FilesNil", spec := "filesNil", inPlace := ["slices.overlaps[heptad/files.Unit]", "maps.clone"], unfollowed := true, recurses := true, apart := false, narrowed := true }
def FilesNilUptoSaid : Prop := filesNilUptoRow.holds Try.pinned (OpenSpec.upto filesNilSpec)

end Rows
end Go.Proofs.Ytehlmkgldcfciaa
