/-
  No cell of these rows narrows 'for every input' (looked for: loops, veiled, ifaces, maps, wideKeys, modest, calm, conditions, laid).
  DERIVED. THE GIVEN ROWS OF THIS SEAT. 4 by the template 'for every input the law returns true; each argument reads behind the call as it read before'; 0 by the template 'total and deterministic' (their statements: YtchkhnhmpgkpeaaTotals.lean).
  GIVEN WITH THE SEED: the statements are not yours to turn. If you find one false, say at which input.
  Laid BY PROGRAM, IN A SANDBOX (cutbox-rows.mjs): the forced cells as the released guide's own fill.sh prints them over the translation f84fec539658c9ab… (all of the seat's roots in one cut). By AI agents, Wed Nov 11 2026. No macro, syntax, notation, axiom, sorry.
-/
import Derived.Test.YtchkhnhmpgkpeaaChecked
import GoSem.Claim
import GoSem.ClaimJoined
import GoSem.ClaimMapViews
import Derived.JoinedTies
import Derived.KernelRfl
namespace Go.Proofs.Ytchkhnhmpgkpeaa
/- THE CELL 'sum', in the pinned program and in every row, IS THE sha256 OF THE DUMP (.gsa) THAT YtchkhnhmpgkpeaaProg.lean LOADS. Nothing in Lean hashes anything: it is a label: what it is worth is what the hold of that sum in a sandbox is worth. -/
noncomputable def Try.pinned : Pinned := { name := "ytchkhnhmpgkpeaa", sum := "f84fec539658c9ab82e73c1f223971733ec72e5550f677ad166458394b69d26d", checked := Try.checked }
namespace Rows
def none {H : Type} : Left H := { results := [], args := [] }

/-- 'heptadlaw11.AddressLongest': WHATEVER THE INPUT: true; the input reads as it did. -/
def addressLongestSpec : ChangeSpec := { name := "addressLongest", fn := fun _ => fun
  | [d1, d2] => { results := [.lit (.bool true)], args := [d1, d2] }
  | _ => none }
def addressLongestRow : OpenClaim := { program := "ytchkhnhmpgkpeaa", sum := "f84fec539658c9ab82e73c1f223971733ec72e5550f677ad166458394b69d26d", func := "heptad/heptadlaw11.AddressLongest", spec := "addressLongest", unfollowed := true, recurses := true, apart := false }
def AddressLongestSaid : Prop := addressLongestRow.holds Try.pinned (OpenSpec.ofChange addressLongestSpec)

/-- ITS FALSE NEIGHBOUR: 'it returns false'. Refute it at one input. -/
def addressLongestWrong : ChangeSpec := { name := "addressLongest", fn := fun _ => fun
  | [d1, d2] => { results := [.lit (.bool false)], args := [d1, d2] }
  | _ => none }
def AddressLongestWrongFalsely : Prop := addressLongestRow.holds Try.pinned (OpenSpec.ofChange addressLongestWrong)

/-- 'heptadlaw11.AddressFinds': WHATEVER THE INPUT: true; the input reads as it did. -/
def addressFindsSpec : ChangeSpec := { name := "addressFinds", fn := fun _ => fun
  | [d1, d2] => { results := [.lit (.bool true)], args := [d1, d2] }
  | _ => none }
def addressFindsRow : OpenClaim := { program := "ytchkhnhmpgkpeaa", sum := "f84fec539658c9ab82e73c1f223971733ec72e5550f677ad166458394b69d26d", func := "heptad/heptadlaw11.AddressFinds", spec := "addressFinds", unfollowed := true, recurses := true, apart := false }
def AddressFindsSaid : Prop := addressFindsRow.holds Try.pinned (OpenSpec.ofChange addressFindsSpec)

/-- ITS FALSE NEIGHBOUR: 'it returns false'. Refute it at one input. -/
def addressFindsWrong : ChangeSpec := { name := "addressFinds", fn := fun _ => fun
  | [d1, d2] => { results := [.lit (.bool false)], args := [d1, d2] }
  | _ => none }
def AddressFindsWrongFalsely : Prop := addressFindsRow.holds Try.pinned (OpenSpec.ofChange addressFindsWrong)

/-- 'heptadlaw11.AddressBrief': WHATEVER THE INPUT: true; the input reads as it did. -/
def addressBriefSpec : ChangeSpec := { name := "addressBrief", fn := fun _ => fun
  | [d1, d2] => { results := [.lit (.bool true)], args := [d1, d2] }
  | _ => none }
def addressBriefRow : OpenClaim := { program := "ytchkhnhmpgkpeaa", sum := "f84fec539658c9ab82e73c1f223971733ec72e5550f677ad166458394b69d26d", func := "heptad/heptadlaw11.AddressBrief", spec := "addressBrief", unfollowed := true, recurses := true, apart := false }
def AddressBriefSaid : Prop := addressBriefRow.holds Try.pinned (OpenSpec.ofChange addressBriefSpec)

/-- ITS FALSE NEIGHBOUR: 'it returns false'. Refute it at one input. -/
def addressBriefWrong : ChangeSpec := { name := "addressBrief", fn := fun _ => fun
  | [d1, d2] => { results := [.lit (.bool false)], args := [d1, d2] }
  | _ => none }
def AddressBriefWrongFalsely : Prop := addressBriefRow.holds Try.pinned (OpenSpec.ofChange addressBriefWrong)

/-- 'heptadlaw11.AddressChanges': WHATEVER THE INPUT: true; the input reads as it did. -/
def addressChangesSpec : ChangeSpec := { name := "addressChanges", fn := fun _ => fun
  | [d1, d2, d3] => { results := [.lit (.bool true)], args := [d1, d2, d3] }
  | _ => none }
def addressChangesRow : OpenClaim := { program := "ytchkhnhmpgkpeaa", sum := "f84fec539658c9ab82e73c1f223971733ec72e5550f677ad166458394b69d26d", func := "heptad/heptadlaw11.AddressChanges", spec := "addressChanges", inPlace := ["slices.overlaps[heptad/address.Entry]"], unfollowed := true, recurses := true, apart := false }
def AddressChangesSaid : Prop := addressChangesRow.holds Try.pinned (OpenSpec.ofChange addressChangesSpec)

/-- ITS FALSE NEIGHBOUR: 'it returns false'. Refute it at one input. -/
def addressChangesWrong : ChangeSpec := { name := "addressChanges", fn := fun _ => fun
  | [d1, d2, d3] => { results := [.lit (.bool false)], args := [d1, d2, d3] }
  | _ => none }
def AddressChangesWrongFalsely : Prop := addressChangesRow.holds Try.pinned (OpenSpec.ofChange addressChangesWrong)

/- THE SECOND FORM. 'bulk': how many values and letters a reading holds, each counted each time it is reached (what is shared counts as often as it is met; a slice's spare places count too). A statement '..UptoSaid' is the law's where the arguments, and the package variables that the reading takes, are together of bulk at most 1048576: NARROWER than '..Said'. Prove '..Said' where nothing that the law and all that it calls make is longer than what came in: it says more and counts as full. Else prove '..UptoSaid'. A law counts once. -/
mutual
def uptoBulk {H : Type} : DataW H → Nat
  | .lit (.string bytes) => bytes.length + 1
  | .lit _ => 1
  | .nil => 1
  | .ptr d => uptoBulk d + 1
  | .slice elems spare => uptoBulkAll elems + uptoBulkAll spare + 1
  | .agg parts => uptoBulkAll parts + 1
  | .iface _ d => uptoBulk d + 1
  | .map entries => uptoBulkEntries entries + 1
  | .held _ => 1
def uptoBulkAll {H : Type} : List (DataW H) → Nat
  | [] => 0
  | d :: r => uptoBulk d + uptoBulkAll r
def uptoBulkEntries {H : Type} : List (Lit × DataW H) → Nat
  | [] => 0
  | x :: r => uptoBulkEntry x + uptoBulkEntries r
def uptoBulkEntry {H : Type} : Lit × DataW H → Nat
  | (.string bytes, d) => bytes.length + uptoBulk d + 1
  | (_, d) => uptoBulk d + 1
 end
def uptoSmall : (H : Type) → List (DataW H) → Bool := fun _ ds => decide (uptoBulkAll ds ≤ 1048576)
def OpenSpec.upto (s : _root_.Go.ChangeSpec) : _root_.Go.OpenSpec := { _root_.Go.OpenSpec.ofChange s with cond := some uptoSmall }

/-- 'heptadlaw11.AddressLongest', WHERE WHAT IT READS IS OF BULK AT MOST 1048576: true; the input reads as it did. -/
def addressLongestUptoRow : OpenClaim := { program := "ytchkhnhmpgkpeaa", sum := "f84fec539658c9ab82e73c1f223971733ec72e5550f677ad166458394b69d26d", func := "heptad/heptadlaw11.AddressLongest", spec := "addressLongest", unfollowed := true, recurses := true, apart := false, narrowed := true }
def AddressLongestUptoSaid : Prop := addressLongestUptoRow.holds Try.pinned (OpenSpec.upto addressLongestSpec)

/-- 'heptadlaw11.AddressFinds', WHERE WHAT IT READS IS OF BULK AT MOST 1048576: true; the input reads as it did. -/
def addressFindsUptoRow : OpenClaim := { program := "ytchkhnhmpgkpeaa", sum := "f84fec539658c9ab82e73c1f223971733ec72e5550f677ad166458394b69d26d", func := "heptad/heptadlaw11.AddressFinds", spec := "addressFinds", unfollowed := true, recurses := true, apart := false, narrowed := true }
def AddressFindsUptoSaid : Prop := addressFindsUptoRow.holds Try.pinned (OpenSpec.upto addressFindsSpec)

/-- 'heptadlaw11.AddressBrief', WHERE WHAT IT READS IS OF BULK AT MOST 1048576: true; the input reads as it did. -/
def addressBriefUptoRow : OpenClaim := { program := "ytchkhnhmpgkpeaa", sum := "f84fec539658c9ab82e73c1f223971733ec72e5550f677ad166458394b69d26d", func := "heptad/heptadlaw11.AddressBrief", spec := "addressBrief", unfollowed := true, recurses := true, apart := false, narrowed := true }
def AddressBriefUptoSaid : Prop := addressBriefUptoRow.holds Try.pinned (OpenSpec.upto addressBriefSpec)

/-- 'heptadlaw11.AddressChanges', WHERE WHAT IT READS IS OF BULK AT MOST 1048576: true; the input reads as it did. -/
def addressChangesUptoRow : OpenClaim := { program := "ytchkhnhmpgkpeaa", sum := "f84fec539658c9ab82e73c1f223971733ec72e5550f677ad166458394b69d26d", func := "heptad/heptadlaw11.AddressChanges", spec := "addressChanges", inPlace := ["slices.overlaps[heptad/address.Entry]"], unfollowed := true, recurses := true, apart := false, narrowed := true }
def AddressChangesUptoSaid : Prop := addressChangesUptoRow.holds Try.pinned (OpenSpec.upto addressChangesSpec)

end Rows
end Go.Proofs.Ytchkhnhmpgkpeaa
