/-
  DERIVED. GIVEN WITH THE SEED: THE CARDS: each row of YtaoecddmbhfnmaaDoorRows.lean that lists a variable, with what it lists TIED to the program's text (the seventh form; the later family's looks); each row that meets fmt, with fmt's text TOLD by the authors' own Lean function (tested against real Go, not proved from fmt's source: count such statements apart). THE CARD IS WHAT COUNTS. Prove the row's statement (the work); the ties are given (YtaoecddmbhfnmaaDoorTie.lean); close each card by the builder's one call (the guide's Derived/Test/ToyasCard.lean, 'card_holds'). Laid BY PROGRAM, IN A SANDBOX (cutbox-door.mjs). By AI agents, Wed Nov 11 2026. No macro, syntax, notation, axiom, sorry.
-/
import Derived.Test.YtaoecddmbhfnmaaDoorRows
import GoSem.ClaimSeven
namespace Go.Proofs.YtaoecddmbhfnmaaDoor
namespace Rows

/-- THE TIED CARD OF 'tithelaw15.ScaleStraight'. -/
def scaleStraightCard : Claim7 := { stood := { row := scaleStraightRow, standIns := [], harness := (true, "b59f24a2b5a403afd34c79fbae33a744e3e9bd65ca111b23dbf74d299991c110"), looks := true }, kinds := [], alts := [], laidByText := true, laidKinds := [.sentinel, .sentinel, .sentinel, .sentinel, .sentinel, .sentinel], laidTests := true, laidLooks := .later }
def ScaleStraightCardSaid : Prop := Claim7.holds Tryd.pinned (.plain (OpenSpec.ofChange scaleStraightSpec)) scaleStraightCard

/-- THE TIED CARD OF 'tithelaw15.ScaleFinds'. -/
def scaleFindsCard : Claim7 := { stood := { row := scaleFindsRow, standIns := [], harness := (true, "b59f24a2b5a403afd34c79fbae33a744e3e9bd65ca111b23dbf74d299991c110"), looks := true }, kinds := [], alts := [], laidByText := true, laidKinds := [.sentinel, .sentinel, .sentinel, .sentinel, .sentinel, .sentinel], laidTests := true, laidLooks := .later }
def ScaleFindsCardSaid : Prop := Claim7.holds Tryd.pinned (.plain (OpenSpec.ofChange scaleFindsSpec)) scaleFindsCard

/-- THE TIED CARD OF 'tithelaw15.ScaleRises'. -/
def scaleRisesCard : Claim7 := { stood := { row := scaleRisesRow, standIns := [], harness := (true, "b59f24a2b5a403afd34c79fbae33a744e3e9bd65ca111b23dbf74d299991c110"), looks := true }, kinds := [], alts := [], laidByText := true, laidKinds := [.sentinel, .sentinel, .sentinel, .sentinel, .sentinel, .sentinel], laidTests := true, laidLooks := .later }
def ScaleRisesCardSaid : Prop := Claim7.holds Tryd.pinned (.plain (OpenSpec.ofChange scaleRisesSpec)) scaleRisesCard

/-- THE TIED CARD OF 'tithelaw15.ScaleSums'. -/
def scaleSumsCard : Claim7 := { stood := { row := scaleSumsRow, standIns := [], harness := (true, "b59f24a2b5a403afd34c79fbae33a744e3e9bd65ca111b23dbf74d299991c110"), looks := true }, kinds := [], alts := [], laidByText := true, laidKinds := [.sentinel, .sentinel, .sentinel, .sentinel, .sentinel, .sentinel], laidTests := true, laidLooks := .later }
def ScaleSumsCardSaid : Prop := Claim7.holds Tryd.pinned (.plain (OpenSpec.ofChange scaleSumsSpec)) scaleSumsCard

/-- THE TIED CARD OF 'tithelaw15.ScaleTops'. -/
def scaleTopsCard : Claim7 := { stood := { row := scaleTopsRow, standIns := [], harness := (true, "b59f24a2b5a403afd34c79fbae33a744e3e9bd65ca111b23dbf74d299991c110"), looks := true }, kinds := [], alts := [], laidByText := true, laidKinds := [.sentinel, .sentinel, .sentinel, .sentinel, .sentinel, .sentinel], laidTests := true, laidLooks := .later }
def ScaleTopsCardSaid : Prop := Claim7.holds Tryd.pinned (.plain (OpenSpec.ofChange scaleTopsSpec)) scaleTopsCard

/-- THE TIED CARD OF 'tithelaw15.ScaleOwn'. -/
def scaleOwnCard : Claim7 := { stood := { row := scaleOwnRow, standIns := [], harness := (true, "b59f24a2b5a403afd34c79fbae33a744e3e9bd65ca111b23dbf74d299991c110"), looks := true }, kinds := [], alts := [], laidByText := true, laidKinds := [.sentinel, .sentinel, .sentinel, .sentinel, .sentinel, .sentinel], laidTests := true, laidLooks := .later }
def ScaleOwnCardSaid : Prop := Claim7.holds Tryd.pinned (.plain (OpenSpec.ofChange scaleOwnSpec)) scaleOwnCard

/-- THE SECOND FORM's CARD OF 'tithelaw15.ScaleStraight'. -/
def scaleStraightUptoCard : Claim7 := { stood := { row := scaleStraightUptoRow, standIns := [], harness := (true, "b59f24a2b5a403afd34c79fbae33a744e3e9bd65ca111b23dbf74d299991c110"), looks := true }, kinds := [], alts := [], laidByText := true, laidKinds := [.sentinel, .sentinel, .sentinel, .sentinel, .sentinel, .sentinel], laidTests := true, laidLooks := .later }
def ScaleStraightUptoCardSaid : Prop := Claim7.holds Tryd.pinned (.plain (OpenSpec.upto scaleStraightSpec)) scaleStraightUptoCard

/-- THE SECOND FORM's CARD OF 'tithelaw15.ScaleFinds'. -/
def scaleFindsUptoCard : Claim7 := { stood := { row := scaleFindsUptoRow, standIns := [], harness := (true, "b59f24a2b5a403afd34c79fbae33a744e3e9bd65ca111b23dbf74d299991c110"), looks := true }, kinds := [], alts := [], laidByText := true, laidKinds := [.sentinel, .sentinel, .sentinel, .sentinel, .sentinel, .sentinel], laidTests := true, laidLooks := .later }
def ScaleFindsUptoCardSaid : Prop := Claim7.holds Tryd.pinned (.plain (OpenSpec.upto scaleFindsSpec)) scaleFindsUptoCard

/-- THE SECOND FORM's CARD OF 'tithelaw15.ScaleRises'. -/
def scaleRisesUptoCard : Claim7 := { stood := { row := scaleRisesUptoRow, standIns := [], harness := (true, "b59f24a2b5a403afd34c79fbae33a744e3e9bd65ca111b23dbf74d299991c110"), looks := true }, kinds := [], alts := [], laidByText := true, laidKinds := [.sentinel, .sentinel, .sentinel, .sentinel, .sentinel, .sentinel], laidTests := true, laidLooks := .later }
def ScaleRisesUptoCardSaid : Prop := Claim7.holds Tryd.pinned (.plain (OpenSpec.upto scaleRisesSpec)) scaleRisesUptoCard

/-- THE SECOND FORM's CARD OF 'tithelaw15.ScaleSums'. -/
def scaleSumsUptoCard : Claim7 := { stood := { row := scaleSumsUptoRow, standIns := [], harness := (true, "b59f24a2b5a403afd34c79fbae33a744e3e9bd65ca111b23dbf74d299991c110"), looks := true }, kinds := [], alts := [], laidByText := true, laidKinds := [.sentinel, .sentinel, .sentinel, .sentinel, .sentinel, .sentinel], laidTests := true, laidLooks := .later }
def ScaleSumsUptoCardSaid : Prop := Claim7.holds Tryd.pinned (.plain (OpenSpec.upto scaleSumsSpec)) scaleSumsUptoCard

/-- THE SECOND FORM's CARD OF 'tithelaw15.ScaleTops'. -/
def scaleTopsUptoCard : Claim7 := { stood := { row := scaleTopsUptoRow, standIns := [], harness := (true, "b59f24a2b5a403afd34c79fbae33a744e3e9bd65ca111b23dbf74d299991c110"), looks := true }, kinds := [], alts := [], laidByText := true, laidKinds := [.sentinel, .sentinel, .sentinel, .sentinel, .sentinel, .sentinel], laidTests := true, laidLooks := .later }
def ScaleTopsUptoCardSaid : Prop := Claim7.holds Tryd.pinned (.plain (OpenSpec.upto scaleTopsSpec)) scaleTopsUptoCard

/-- THE SECOND FORM's CARD OF 'tithelaw15.ScaleOwn'. -/
def scaleOwnUptoCard : Claim7 := { stood := { row := scaleOwnUptoRow, standIns := [], harness := (true, "b59f24a2b5a403afd34c79fbae33a744e3e9bd65ca111b23dbf74d299991c110"), looks := true }, kinds := [], alts := [], laidByText := true, laidKinds := [.sentinel, .sentinel, .sentinel, .sentinel, .sentinel, .sentinel], laidTests := true, laidLooks := .later }
def ScaleOwnUptoCardSaid : Prop := Claim7.holds Tryd.pinned (.plain (OpenSpec.upto scaleOwnSpec)) scaleOwnUptoCard
end Rows
end Go.Proofs.YtaoecddmbhfnmaaDoor
