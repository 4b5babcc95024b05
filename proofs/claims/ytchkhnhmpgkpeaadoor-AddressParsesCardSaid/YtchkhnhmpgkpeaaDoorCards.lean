/-
  DERIVED. GIVEN WITH THE SEED: THE CARDS: each row of YtchkhnhmpgkpeaaDoorRows.lean that lists a variable, with what it lists TIED to the program's text (the seventh form; the later family's looks); each row that meets fmt, with fmt's text TOLD by the authors' own Lean function (tested against real Go, not proved from fmt's source: count such statements apart). THE CARD IS WHAT COUNTS. Prove the row's statement (the work); the ties are given (YtchkhnhmpgkpeaaDoorTie.lean); close each card by the builder's one call (the guide's Derived/Test/ToyasCard.lean, 'card_holds'). Laid BY PROGRAM, IN A SANDBOX (cutbox-door.mjs). By AI agents, Wed Nov 11 2026. No macro, syntax, notation, axiom, sorry.
-/
import Derived.Test.YtchkhnhmpgkpeaaDoorRows
import GoSem.ClaimSeven
namespace Go.Proofs.YtchkhnhmpgkpeaaDoor
namespace Rows

/-- THE TIED CARD OF 'heptadlaw11.AddressLists'. -/
def addressListsCard : Claim7 := { stood := { row := addressListsRow, standIns := [], harness := (true, "77dc38427c2b3b1e5cad5fda1a43bafc3979332e4fe5889b68c0703f27570b4e"), looks := true }, kinds := [], alts := [], laidByText := true, laidKinds := [.data, .data, .data], laidTests := true, laidLooks := .later }
def AddressListsCardSaid : Prop := Claim7.holds Tryd.pinned (.plain (OpenSpec.ofChange addressListsSpec)) addressListsCard

/-- THE TIED CARD OF 'heptadlaw11.AddressParses'. -/
def addressParsesCard : Claim7 := { stood := { row := addressParsesRow, standIns := [], harness := (true, "77dc38427c2b3b1e5cad5fda1a43bafc3979332e4fe5889b68c0703f27570b4e"), looks := true }, kinds := [], alts := [], laidByText := true, laidKinds := [.data, .data, .data, .data, .sentinel, .sentinel, .pinned], laidTests := true, laidLooks := .later }
def AddressParsesCardSaid : Prop := Claim7.holds Tryd.pinned (.plain (OpenSpec.ofChange addressParsesSpec)) addressParsesCard

/-- THE SECOND FORM's CARD OF 'heptadlaw11.AddressLists'. -/
def addressListsUptoCard : Claim7 := { stood := { row := addressListsUptoRow, standIns := [], harness := (true, "77dc38427c2b3b1e5cad5fda1a43bafc3979332e4fe5889b68c0703f27570b4e"), looks := true }, kinds := [], alts := [], laidByText := true, laidKinds := [.data, .data, .data], laidTests := true, laidLooks := .later }
def AddressListsUptoCardSaid : Prop := Claim7.holds Tryd.pinned (.plain (OpenSpec.upto addressListsSpec)) addressListsUptoCard

/-- THE SECOND FORM's CARD OF 'heptadlaw11.AddressParses'. -/
def addressParsesUptoCard : Claim7 := { stood := { row := addressParsesUptoRow, standIns := [], harness := (true, "77dc38427c2b3b1e5cad5fda1a43bafc3979332e4fe5889b68c0703f27570b4e"), looks := true }, kinds := [], alts := [], laidByText := true, laidKinds := [.data, .data, .data, .data, .sentinel, .sentinel, .pinned], laidTests := true, laidLooks := .later }
def AddressParsesUptoCardSaid : Prop := Claim7.holds Tryd.pinned (.plain (OpenSpec.upto addressParsesSpec)) addressParsesUptoCard
end Rows
end Go.Proofs.YtchkhnhmpgkpeaaDoor
