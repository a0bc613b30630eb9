/-
  DERIVED. GIVEN WITH THE SEED: THE CARDS: each row of YtmankldedhgdiaaDoorRows.lean that lists a variable, with what it lists TIED to the program's text (the seventh form; the later family's looks); each row that meets fmt, with fmt's text TOLD by the authors' own Lean function (tested against real Go, not proved from fmt's source: count such statements apart). THE CARD IS WHAT COUNTS. Prove the row's statement (the work); the ties are given (YtmankldedhgdiaaDoorTie.lean); close each card by the builder's one call (the guide's Derived/Test/ToyasCard.lean, 'card_holds'). Laid BY PROGRAM, IN A SANDBOX (cutbox-door.mjs). By AI agents, Wed Nov 11 2026. No macro, syntax, notation, axiom, sorry.
-/
import Derived.Test.YtmankldedhgdiaaDoorRows
import GoSem.ClaimSeven
namespace Go.Proofs.YtmankldedhgdiaaDoor
namespace Rows

/-- THE TIED CARD OF 'tithelaw15.ScaleOwn'. -/
def scaleOwnCard : Claim7 := { stood := { row := scaleOwnRow, standIns := [], harness := (true, "bcaa4f7cad92e9449d4b4622bb165276dad26006101b2405c068f23e9b24a502"), looks := true }, kinds := [], alts := [], laidByText := true, laidKinds := [.sentinel, .sentinel, .sentinel, .sentinel, .sentinel, .sentinel], laidTests := true, laidLooks := .later }
def ScaleOwnCardSaid : Prop := Claim7.holds Tryd.pinned (.plain (OpenSpec.ofChange scaleOwnSpec)) scaleOwnCard

/-- THE SECOND FORM's CARD OF 'tithelaw15.ScaleOwn'. -/
def scaleOwnUptoCard : Claim7 := { stood := { row := scaleOwnUptoRow, standIns := [], harness := (true, "bcaa4f7cad92e9449d4b4622bb165276dad26006101b2405c068f23e9b24a502"), looks := true }, kinds := [], alts := [], laidByText := true, laidKinds := [.sentinel, .sentinel, .sentinel, .sentinel, .sentinel, .sentinel], laidTests := true, laidLooks := .later }
def ScaleOwnUptoCardSaid : Prop := Claim7.holds Tryd.pinned (.plain (OpenSpec.upto scaleOwnSpec)) scaleOwnUptoCard
end Rows
end Go.Proofs.YtmankldedhgdiaaDoor
