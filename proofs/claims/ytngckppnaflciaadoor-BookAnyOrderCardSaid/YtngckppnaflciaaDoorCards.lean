/-
  DERIVED. GIVEN WITH THE SEED: THE CARDS: each row of YtngckppnaflciaaDoorRows.lean that lists a variable, with what it lists TIED to the program's text (the seventh form; the later family's looks); each row that meets fmt, with fmt's text TOLD by the authors' own Lean function (tested against real Go, not proved from fmt's source: count such statements apart). THE CARD IS WHAT COUNTS. Prove the row's statement (the work); the ties are given (YtngckppnaflciaaDoorTie.lean); close each card by the builder's one call (the guide's Derived/Test/ToyasCard.lean, 'card_holds'). Laid BY PROGRAM, IN A SANDBOX (cutbox-door.mjs). By AI agents, Wed Nov 11 2026. No macro, syntax, notation, axiom, sorry.
-/
import Derived.Test.YtngckppnaflciaaDoorRows
import GoSem.ClaimSeven
namespace Go.Proofs.YtngckppnaflciaaDoor
namespace Rows

/-- THE TIED CARD OF 'tithelaw8.BookAnyOrder'. -/
def bookAnyOrderCard : Claim7 := { stood := { row := bookAnyOrderRow, standIns := [], harness := (true, "477116143ac2cf28b9b8c54689d58fc207f2efcb4bcf083a0ddd8c48ce6fb866"), looks := true }, kinds := [], alts := [], laidByText := true, laidKinds := [.data, .sentinel, .sentinel, .sentinel, .sentinel, .sentinel, .sentinel, .sentinel, .sentinel, .sentinel, .sentinel, .sentinel, .sentinel, .pinned], laidTests := true, laidLooks := .later }
def BookAnyOrderCardSaid : Prop := Claim7.holds Tryd.pinned (.plain (OpenSpec.ofChange bookAnyOrderSpec)) bookAnyOrderCard

/-- THE SECOND FORM's CARD OF 'tithelaw8.BookAnyOrder'. -/
def bookAnyOrderUptoCard : Claim7 := { stood := { row := bookAnyOrderUptoRow, standIns := [], harness := (true, "477116143ac2cf28b9b8c54689d58fc207f2efcb4bcf083a0ddd8c48ce6fb866"), looks := true }, kinds := [], alts := [], laidByText := true, laidKinds := [.data, .sentinel, .sentinel, .sentinel, .sentinel, .sentinel, .sentinel, .sentinel, .sentinel, .sentinel, .sentinel, .sentinel, .sentinel, .pinned], laidTests := true, laidLooks := .later }
def BookAnyOrderUptoCardSaid : Prop := Claim7.holds Tryd.pinned (.plain (OpenSpec.upto bookAnyOrderSpec)) bookAnyOrderUptoCard
end Rows
end Go.Proofs.YtngckppnaflciaaDoor
