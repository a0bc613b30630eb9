/-
  DERIVED. GIVEN WITH THE SEED: THE CARDS: each row of YtjcdlhplflmneaaDoorRows.lean that lists a variable, with what it lists TIED to the program's text (the seventh form; the later family's looks); each row that meets fmt, with fmt's text TOLD by the authors' own Lean function (tested against real Go, not proved from fmt's source: count such statements apart). THE CARD IS WHAT COUNTS. Prove the row's statement (the work); the ties are given (YtjcdlhplflmneaaDoorTie.lean); close each card by the builder's one call (the guide's Derived/Test/ToyasCard.lean, 'card_holds'). Laid BY PROGRAM, IN A SANDBOX (cutbox-door.mjs). By AI agents, Wed Nov 11 2026. No macro, syntax, notation, axiom, sorry.
-/
import Derived.Test.YtjcdlhplflmneaaDoorRows
import GoSem.ClaimSeven
namespace Go.Proofs.YtjcdlhplflmneaaDoor
namespace Rows

/-- THE TIED CARD OF 'tithelaw15.ScaleTops'. -/
def scaleTopsCard : Claim7 := { stood := { row := scaleTopsRow, standIns := [], harness := (true, "85dabb35dd456e8c3e577a28fb63c3a59e5d56b4014a051a515f77b3ebd1f0a2"), looks := true }, kinds := [], alts := [], laidByText := true, laidKinds := [.sentinel, .sentinel, .sentinel, .sentinel, .sentinel, .sentinel], laidTests := true, laidLooks := .later }
def ScaleTopsCardSaid : Prop := Claim7.holds Tryd.pinned (.plain (OpenSpec.ofChange scaleTopsSpec)) scaleTopsCard

/-- THE TIED CARD OF 'tithelaw15.ScaleOwn'. -/
def scaleOwnCard : Claim7 := { stood := { row := scaleOwnRow, standIns := [], harness := (true, "85dabb35dd456e8c3e577a28fb63c3a59e5d56b4014a051a515f77b3ebd1f0a2"), looks := true }, kinds := [], alts := [], laidByText := true, laidKinds := [.sentinel, .sentinel, .sentinel, .sentinel, .sentinel, .sentinel], laidTests := true, laidLooks := .later }
def ScaleOwnCardSaid : Prop := Claim7.holds Tryd.pinned (.plain (OpenSpec.ofChange scaleOwnSpec)) scaleOwnCard

/-- THE TIED CARD OF 'tithelaw6.LineMakes'. -/
def lineMakesCard : Claim7 := { stood := { row := lineMakesRow, standIns := [], harness := (true, "85dabb35dd456e8c3e577a28fb63c3a59e5d56b4014a051a515f77b3ebd1f0a2"), looks := true }, kinds := [], alts := [], laidByText := true, laidKinds := [.sentinel], laidTests := true, laidLooks := .later }
def LineMakesCardSaid : Prop := Claim7.holds Tryd.pinned (.plain (OpenSpec.ofChange lineMakesSpec)) lineMakesCard

/-- THE TIED CARD OF 'tithelaw6.LineJoins'. -/
def lineJoinsCard : Claim7 := { stood := { row := lineJoinsRow, standIns := [], harness := (true, "85dabb35dd456e8c3e577a28fb63c3a59e5d56b4014a051a515f77b3ebd1f0a2"), looks := true }, kinds := [], alts := [], laidByText := true, laidKinds := [.sentinel], laidTests := true, laidLooks := .later }
def LineJoinsCardSaid : Prop := Claim7.holds Tryd.pinned (.plain (OpenSpec.ofChange lineJoinsSpec)) lineJoinsCard

/-- THE TIED CARD OF 'tithelaw6.LineDays'. -/
def lineDaysCard : Claim7 := { stood := { row := lineDaysRow, standIns := [], harness := (true, "85dabb35dd456e8c3e577a28fb63c3a59e5d56b4014a051a515f77b3ebd1f0a2"), looks := true }, kinds := [], alts := [], laidByText := true, laidKinds := [.sentinel], laidTests := true, laidLooks := .later }
def LineDaysCardSaid : Prop := Claim7.holds Tryd.pinned (.plain (OpenSpec.ofChange lineDaysSpec)) lineDaysCard

/-- THE TIED CARD OF 'tithelaw6.LineMaps'. -/
def lineMapsCard : Claim7 := { stood := { row := lineMapsRow, standIns := [], harness := (true, "85dabb35dd456e8c3e577a28fb63c3a59e5d56b4014a051a515f77b3ebd1f0a2"), looks := true }, kinds := [], alts := [], laidByText := true, laidKinds := [.sentinel], laidTests := true, laidLooks := .later }
def LineMapsCardSaid : Prop := Claim7.holds Tryd.pinned (.plain (OpenSpec.ofChange lineMapsSpec)) lineMapsCard

/-- THE TIED CARD OF 'tithelaw6.LineAll'. -/
def lineAllCard : Claim7 := { stood := { row := lineAllRow, standIns := [], harness := (true, "85dabb35dd456e8c3e577a28fb63c3a59e5d56b4014a051a515f77b3ebd1f0a2"), looks := true }, kinds := [], alts := [], laidByText := true, laidKinds := [.sentinel], laidTests := true, laidLooks := .later }
def LineAllCardSaid : Prop := Claim7.holds Tryd.pinned (.plain (OpenSpec.ofChange lineAllSpec)) lineAllCard

/-- THE SECOND FORM's CARD OF 'tithelaw15.ScaleTops'. -/
def scaleTopsUptoCard : Claim7 := { stood := { row := scaleTopsUptoRow, standIns := [], harness := (true, "85dabb35dd456e8c3e577a28fb63c3a59e5d56b4014a051a515f77b3ebd1f0a2"), looks := true }, kinds := [], alts := [], laidByText := true, laidKinds := [.sentinel, .sentinel, .sentinel, .sentinel, .sentinel, .sentinel], laidTests := true, laidLooks := .later }
def ScaleTopsUptoCardSaid : Prop := Claim7.holds Tryd.pinned (.plain (OpenSpec.upto scaleTopsSpec)) scaleTopsUptoCard

/-- THE SECOND FORM's CARD OF 'tithelaw15.ScaleOwn'. -/
def scaleOwnUptoCard : Claim7 := { stood := { row := scaleOwnUptoRow, standIns := [], harness := (true, "85dabb35dd456e8c3e577a28fb63c3a59e5d56b4014a051a515f77b3ebd1f0a2"), looks := true }, kinds := [], alts := [], laidByText := true, laidKinds := [.sentinel, .sentinel, .sentinel, .sentinel, .sentinel, .sentinel], laidTests := true, laidLooks := .later }
def ScaleOwnUptoCardSaid : Prop := Claim7.holds Tryd.pinned (.plain (OpenSpec.upto scaleOwnSpec)) scaleOwnUptoCard

/-- THE SECOND FORM's CARD OF 'tithelaw6.LineMakes'. -/
def lineMakesUptoCard : Claim7 := { stood := { row := lineMakesUptoRow, standIns := [], harness := (true, "85dabb35dd456e8c3e577a28fb63c3a59e5d56b4014a051a515f77b3ebd1f0a2"), looks := true }, kinds := [], alts := [], laidByText := true, laidKinds := [.sentinel], laidTests := true, laidLooks := .later }
def LineMakesUptoCardSaid : Prop := Claim7.holds Tryd.pinned (.plain (OpenSpec.upto lineMakesSpec)) lineMakesUptoCard

/-- THE SECOND FORM's CARD OF 'tithelaw6.LineJoins'. -/
def lineJoinsUptoCard : Claim7 := { stood := { row := lineJoinsUptoRow, standIns := [], harness := (true, "85dabb35dd456e8c3e577a28fb63c3a59e5d56b4014a051a515f77b3ebd1f0a2"), looks := true }, kinds := [], alts := [], laidByText := true, laidKinds := [.sentinel], laidTests := true, laidLooks := .later }
def LineJoinsUptoCardSaid : Prop := Claim7.holds Tryd.pinned (.plain (OpenSpec.upto lineJoinsSpec)) lineJoinsUptoCard

/-- THE SECOND FORM's CARD OF 'tithelaw6.LineDays'. -/
def lineDaysUptoCard : Claim7 := { stood := { row := lineDaysUptoRow, standIns := [], harness := (true, "85dabb35dd456e8c3e577a28fb63c3a59e5d56b4014a051a515f77b3ebd1f0a2"), looks := true }, kinds := [], alts := [], laidByText := true, laidKinds := [.sentinel], laidTests := true, laidLooks := .later }
def LineDaysUptoCardSaid : Prop := Claim7.holds Tryd.pinned (.plain (OpenSpec.upto lineDaysSpec)) lineDaysUptoCard

/-- THE SECOND FORM's CARD OF 'tithelaw6.LineMaps'. -/
def lineMapsUptoCard : Claim7 := { stood := { row := lineMapsUptoRow, standIns := [], harness := (true, "85dabb35dd456e8c3e577a28fb63c3a59e5d56b4014a051a515f77b3ebd1f0a2"), looks := true }, kinds := [], alts := [], laidByText := true, laidKinds := [.sentinel], laidTests := true, laidLooks := .later }
def LineMapsUptoCardSaid : Prop := Claim7.holds Tryd.pinned (.plain (OpenSpec.upto lineMapsSpec)) lineMapsUptoCard

/-- THE SECOND FORM's CARD OF 'tithelaw6.LineAll'. -/
def lineAllUptoCard : Claim7 := { stood := { row := lineAllUptoRow, standIns := [], harness := (true, "85dabb35dd456e8c3e577a28fb63c3a59e5d56b4014a051a515f77b3ebd1f0a2"), looks := true }, kinds := [], alts := [], laidByText := true, laidKinds := [.sentinel], laidTests := true, laidLooks := .later }
def LineAllUptoCardSaid : Prop := Claim7.holds Tryd.pinned (.plain (OpenSpec.upto lineAllSpec)) lineAllUptoCard
end Rows
end Go.Proofs.YtjcdlhplflmneaaDoor
