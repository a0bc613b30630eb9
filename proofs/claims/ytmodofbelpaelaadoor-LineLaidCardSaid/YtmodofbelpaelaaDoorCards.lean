/-
  DERIVED. GIVEN WITH THE SEED: THE CARDS: each row of YtmodofbelpaelaaDoorRows.lean that lists a variable, with what it lists TIED to the program's text (the seventh form; the later family's looks); each row that meets fmt, with fmt's text TOLD by the authors' own Lean function (tested against real Go, not proved from fmt's source: count such statements apart). THE CARD IS WHAT COUNTS. Prove the row's statement (the work); the ties are given (YtmodofbelpaelaaDoorTie.lean); close each card by the builder's one call (the guide's Derived/Test/ToyasCard.lean, 'card_holds'). Laid BY PROGRAM, IN A SANDBOX (cutbox-door.mjs). By AI agents, Wed Nov 11 2026. No macro, syntax, notation, axiom, sorry.
-/
import Derived.Test.YtmodofbelpaelaaDoorRows
import GoSem.ClaimSeven
namespace Go.Proofs.YtmodofbelpaelaaDoor
namespace Rows

/-- THE TIED CARD OF 'tithelaw15.ScaleTops'. -/
def scaleTopsCard : Claim7 := { stood := { row := scaleTopsRow, standIns := [], harness := (true, "0366b48fefa7c7e7bf2753d41ebf690cbcdc77d45b5eb9c9cc2ec7cea329dd3a"), looks := true }, kinds := [], alts := [], laidByText := true, laidKinds := [.sentinel, .sentinel, .sentinel, .sentinel, .sentinel, .sentinel], laidTests := true, laidLooks := .later }
def ScaleTopsCardSaid : Prop := Claim7.holds Tryd.pinned (.plain (OpenSpec.ofChange scaleTopsSpec)) scaleTopsCard

/-- THE TIED CARD OF 'tithelaw15.ScaleOwn'. -/
def scaleOwnCard : Claim7 := { stood := { row := scaleOwnRow, standIns := [], harness := (true, "0366b48fefa7c7e7bf2753d41ebf690cbcdc77d45b5eb9c9cc2ec7cea329dd3a"), looks := true }, kinds := [], alts := [], laidByText := true, laidKinds := [.sentinel, .sentinel, .sentinel, .sentinel, .sentinel, .sentinel], laidTests := true, laidLooks := .later }
def ScaleOwnCardSaid : Prop := Claim7.holds Tryd.pinned (.plain (OpenSpec.ofChange scaleOwnSpec)) scaleOwnCard

/-- THE TIED CARD OF 'tithelaw6.LineLaid'. -/
def lineLaidCard : Claim7 := { stood := { row := lineLaidRow, standIns := [], harness := (true, "0366b48fefa7c7e7bf2753d41ebf690cbcdc77d45b5eb9c9cc2ec7cea329dd3a"), looks := true }, kinds := [], alts := [], laidByText := true, laidKinds := [.sentinel], laidTests := true, laidLooks := .later }
def LineLaidCardSaid : Prop := Claim7.holds Tryd.pinned (.plain (OpenSpec.ofChange lineLaidSpec)) lineLaidCard

/-- THE TIED CARD OF 'tithelaw3.DayOwn'. -/
def dayOwnCard : Claim7 := { stood := { row := dayOwnRow, standIns := [], harness := (true, "0366b48fefa7c7e7bf2753d41ebf690cbcdc77d45b5eb9c9cc2ec7cea329dd3a"), looks := true }, kinds := [], alts := [], laidByText := true, laidKinds := [.data, .data, .data, .sentinel, .sentinel, .data], laidTests := true, laidLooks := .later }
def DayOwnCardSaid : Prop := Claim7.holds Tryd.pinned (.plain (OpenSpec.ofChange dayOwnSpec)) dayOwnCard

/-- THE SECOND FORM's CARD OF 'tithelaw15.ScaleTops'. -/
def scaleTopsUptoCard : Claim7 := { stood := { row := scaleTopsUptoRow, standIns := [], harness := (true, "0366b48fefa7c7e7bf2753d41ebf690cbcdc77d45b5eb9c9cc2ec7cea329dd3a"), looks := true }, kinds := [], alts := [], laidByText := true, laidKinds := [.sentinel, .sentinel, .sentinel, .sentinel, .sentinel, .sentinel], laidTests := true, laidLooks := .later }
def ScaleTopsUptoCardSaid : Prop := Claim7.holds Tryd.pinned (.plain (OpenSpec.upto scaleTopsSpec)) scaleTopsUptoCard

/-- THE SECOND FORM's CARD OF 'tithelaw15.ScaleOwn'. -/
def scaleOwnUptoCard : Claim7 := { stood := { row := scaleOwnUptoRow, standIns := [], harness := (true, "0366b48fefa7c7e7bf2753d41ebf690cbcdc77d45b5eb9c9cc2ec7cea329dd3a"), looks := true }, kinds := [], alts := [], laidByText := true, laidKinds := [.sentinel, .sentinel, .sentinel, .sentinel, .sentinel, .sentinel], laidTests := true, laidLooks := .later }
def ScaleOwnUptoCardSaid : Prop := Claim7.holds Tryd.pinned (.plain (OpenSpec.upto scaleOwnSpec)) scaleOwnUptoCard

/-- THE SECOND FORM's CARD OF 'tithelaw6.LineLaid'. -/
def lineLaidUptoCard : Claim7 := { stood := { row := lineLaidUptoRow, standIns := [], harness := (true, "0366b48fefa7c7e7bf2753d41ebf690cbcdc77d45b5eb9c9cc2ec7cea329dd3a"), looks := true }, kinds := [], alts := [], laidByText := true, laidKinds := [.sentinel], laidTests := true, laidLooks := .later }
def LineLaidUptoCardSaid : Prop := Claim7.holds Tryd.pinned (.plain (OpenSpec.upto lineLaidSpec)) lineLaidUptoCard

/-- THE SECOND FORM's CARD OF 'tithelaw3.DayOwn'. -/
def dayOwnUptoCard : Claim7 := { stood := { row := dayOwnUptoRow, standIns := [], harness := (true, "0366b48fefa7c7e7bf2753d41ebf690cbcdc77d45b5eb9c9cc2ec7cea329dd3a"), looks := true }, kinds := [], alts := [], laidByText := true, laidKinds := [.data, .data, .data, .sentinel, .sentinel, .data], laidTests := true, laidLooks := .later }
def DayOwnUptoCardSaid : Prop := Claim7.holds Tryd.pinned (.plain (OpenSpec.upto dayOwnSpec)) dayOwnUptoCard
end Rows
end Go.Proofs.YtmodofbelpaelaaDoor
