/-
  DERIVED. GIVEN WITH THE SEED: THE CARDS: each row of YtmoeoomlggjaaaaGreatDoorRows.lean that lists a variable, with what it lists TIED to the program's text (the seventh form; the later family's looks); each row that meets fmt, with fmt's text TOLD by the authors' own Lean function (tested against real Go, not proved from fmt's source: count such statements apart). THE CARD IS WHAT COUNTS. Prove the row's statement (the work); the ties are given (YtmoeoomlggjaaaaGreatDoorTie.lean); close each card by the builder's one call (the guide's Derived/Test/ToyasCard.lean, 'card_holds'). Laid BY PROGRAM, IN A SANDBOX (cutbox-door.mjs). By AI agents, Wed Nov 11 2026. No macro, syntax, notation, axiom, sorry.
-/
import Derived.Test.YtmoeoomlggjaaaaGreatDoorRows
import GoSem.ClaimSeven
namespace Go.Proofs.YtmoeoomlggjaaaaGreatDoor
namespace Rows

/-- THE TIED CARD OF 'tithelaw25.AmendLeast'. -/
def amendLeastCard : Claim7 := { stood := { row := amendLeastRow, standIns := [], harness := (true, "0220638f3cd3253ab75e6f13a060dd4a165f639345f5d35410b119c21a51777a"), looks := true }, kinds := [], alts := [], laidByText := true, laidKinds := [.data, .data, .data, .data, .sentinel, .sentinel, .sentinel, .sentinel, .pinned], laidTests := true, laidLooks := .later }
def AmendLeastCardSaid : Prop := Claim7.holds Tryz.pinned (.plain (OpenSpec.ofChange amendLeastSpec)) amendLeastCard

/-- THE TIED CARD OF 'tithelaw25.AmendOwn'. -/
def amendOwnCard : Claim7 := { stood := { row := amendOwnRow, standIns := [], harness := (true, "0220638f3cd3253ab75e6f13a060dd4a165f639345f5d35410b119c21a51777a"), looks := true }, kinds := [], alts := [], laidByText := true, laidKinds := [.data, .data, .data, .data, .sentinel, .sentinel, .sentinel, .sentinel, .pinned], laidTests := true, laidLooks := .later }
def AmendOwnCardSaid : Prop := Claim7.holds Tryz.pinned (.plain (OpenSpec.ofChange amendOwnSpec)) amendOwnCard

/-- THE TIED CARD OF 'tithelaw25.AmendBehind'. -/
def amendBehindCard : Claim7 := { stood := { row := amendBehindRow, standIns := [], harness := (true, "0220638f3cd3253ab75e6f13a060dd4a165f639345f5d35410b119c21a51777a"), looks := true }, kinds := [], alts := [], laidByText := true, laidKinds := [.data, .data, .data, .data, .sentinel, .sentinel, .sentinel, .sentinel, .pinned], laidTests := true, laidLooks := .later }
def AmendBehindCardSaid : Prop := Claim7.holds Tryz.pinned (.plain (OpenSpec.ofChange amendBehindSpec)) amendBehindCard

/-- THE TIED CARD OF 'tithelaw25.AmendOnly'. -/
def amendOnlyCard : Claim7 := { stood := { row := amendOnlyRow, standIns := [], harness := (true, "0220638f3cd3253ab75e6f13a060dd4a165f639345f5d35410b119c21a51777a"), looks := true }, kinds := [], alts := [], laidByText := true, laidKinds := [.data, .data, .data, .data, .sentinel, .sentinel, .sentinel, .sentinel, .pinned], laidTests := true, laidLooks := .later }
def AmendOnlyCardSaid : Prop := Claim7.holds Tryz.pinned (.plain (OpenSpec.ofChange amendOnlySpec)) amendOnlyCard

/-- THE SECOND FORM's CARD OF 'tithelaw25.AmendLeast'. -/
def amendLeastUptoCard : Claim7 := { stood := { row := amendLeastUptoRow, standIns := [], harness := (true, "0220638f3cd3253ab75e6f13a060dd4a165f639345f5d35410b119c21a51777a"), looks := true }, kinds := [], alts := [], laidByText := true, laidKinds := [.data, .data, .data, .data, .sentinel, .sentinel, .sentinel, .sentinel, .pinned], laidTests := true, laidLooks := .later }
def AmendLeastUptoCardSaid : Prop := Claim7.holds Tryz.pinned (.plain (OpenSpec.upto amendLeastSpec)) amendLeastUptoCard

/-- THE SECOND FORM's CARD OF 'tithelaw25.AmendOwn'. -/
def amendOwnUptoCard : Claim7 := { stood := { row := amendOwnUptoRow, standIns := [], harness := (true, "0220638f3cd3253ab75e6f13a060dd4a165f639345f5d35410b119c21a51777a"), looks := true }, kinds := [], alts := [], laidByText := true, laidKinds := [.data, .data, .data, .data, .sentinel, .sentinel, .sentinel, .sentinel, .pinned], laidTests := true, laidLooks := .later }
def AmendOwnUptoCardSaid : Prop := Claim7.holds Tryz.pinned (.plain (OpenSpec.upto amendOwnSpec)) amendOwnUptoCard

/-- THE SECOND FORM's CARD OF 'tithelaw25.AmendBehind'. -/
def amendBehindUptoCard : Claim7 := { stood := { row := amendBehindUptoRow, standIns := [], harness := (true, "0220638f3cd3253ab75e6f13a060dd4a165f639345f5d35410b119c21a51777a"), looks := true }, kinds := [], alts := [], laidByText := true, laidKinds := [.data, .data, .data, .data, .sentinel, .sentinel, .sentinel, .sentinel, .pinned], laidTests := true, laidLooks := .later }
def AmendBehindUptoCardSaid : Prop := Claim7.holds Tryz.pinned (.plain (OpenSpec.upto amendBehindSpec)) amendBehindUptoCard

/-- THE SECOND FORM's CARD OF 'tithelaw25.AmendOnly'. -/
def amendOnlyUptoCard : Claim7 := { stood := { row := amendOnlyUptoRow, standIns := [], harness := (true, "0220638f3cd3253ab75e6f13a060dd4a165f639345f5d35410b119c21a51777a"), looks := true }, kinds := [], alts := [], laidByText := true, laidKinds := [.data, .data, .data, .data, .sentinel, .sentinel, .sentinel, .sentinel, .pinned], laidTests := true, laidLooks := .later }
def AmendOnlyUptoCardSaid : Prop := Claim7.holds Tryz.pinned (.plain (OpenSpec.upto amendOnlySpec)) amendOnlyUptoCard
end Rows
end Go.Proofs.YtmoeoomlggjaaaaGreatDoor
