/-
  DERIVED. GIVEN WITH THE SEED: THE CARDS: each row of YtehlmkgldcfciaaDoorRows.lean that lists a variable, with what it lists TIED to the program's text (the seventh form; the later family's looks); each row that meets fmt, with fmt's text TOLD by the authors' own Lean function (tested against real Go, not proved from fmt's source: count such statements apart). THE CARD IS WHAT COUNTS. Prove the row's statement (the work); the ties are given (YtehlmkgldcfciaaDoorTie.lean); close each card by the builder's one call (the guide's Derived/Test/ToyasCard.lean, 'card_holds'). Laid BY PROGRAM, IN A SANDBOX (cutbox-door.mjs). By AI agents, Wed Nov 11 2026. No macro, syntax, notation, axiom, sorry.
-/
import Derived.Test.YtehlmkgldcfciaaDoorRows
import GoSem.ClaimSeven
namespace Go.Proofs.YtehlmkgldcfciaaDoor
namespace Rows

/-- THE TIED CARD OF 'heptadlaw28.FilesJoins'. -/
def filesJoinsCard : Claim7 := { stood := { row := filesJoinsRow, standIns := [], harness := (true, "879506eb3116f10aa7cc3efc2b38e50a690af6bdececd5e14e434e2d2898c464"), looks := true }, kinds := [], alts := [], laidByText := true, laidKinds := [.data, .data, .data, .data, .sentinel, .sentinel, .pinned], laidTests := true, laidLooks := .later }
def FilesJoinsCardSaid : Prop := Claim7.holds Tryd.pinned (.plain (OpenSpec.ofChange filesJoinsSpec)) filesJoinsCard

/-- THE TIED CARD OF 'heptadlaw28.FilesCarries'. -/
def filesCarriesCard : Claim7 := { stood := { row := filesCarriesRow, standIns := [], harness := (true, "879506eb3116f10aa7cc3efc2b38e50a690af6bdececd5e14e434e2d2898c464"), looks := true }, kinds := [], alts := [], laidByText := true, laidKinds := [.data, .data, .data, .data, .sentinel, .sentinel, .pinned], laidTests := true, laidLooks := .later }
def FilesCarriesCardSaid : Prop := Claim7.holds Tryd.pinned (.plain (OpenSpec.ofChange filesCarriesSpec)) filesCarriesCard

/-- THE SECOND FORM's CARD OF 'heptadlaw28.FilesJoins'. -/
def filesJoinsUptoCard : Claim7 := { stood := { row := filesJoinsUptoRow, standIns := [], harness := (true, "879506eb3116f10aa7cc3efc2b38e50a690af6bdececd5e14e434e2d2898c464"), looks := true }, kinds := [], alts := [], laidByText := true, laidKinds := [.data, .data, .data, .data, .sentinel, .sentinel, .pinned], laidTests := true, laidLooks := .later }
def FilesJoinsUptoCardSaid : Prop := Claim7.holds Tryd.pinned (.plain (OpenSpec.upto filesJoinsSpec)) filesJoinsUptoCard

/-- THE SECOND FORM's CARD OF 'heptadlaw28.FilesCarries'. -/
def filesCarriesUptoCard : Claim7 := { stood := { row := filesCarriesUptoRow, standIns := [], harness := (true, "879506eb3116f10aa7cc3efc2b38e50a690af6bdececd5e14e434e2d2898c464"), looks := true }, kinds := [], alts := [], laidByText := true, laidKinds := [.data, .data, .data, .data, .sentinel, .sentinel, .pinned], laidTests := true, laidLooks := .later }
def FilesCarriesUptoCardSaid : Prop := Claim7.holds Tryd.pinned (.plain (OpenSpec.upto filesCarriesSpec)) filesCarriesUptoCard
end Rows
end Go.Proofs.YtehlmkgldcfciaaDoor
