/-
  DERIVED. GIVEN WITH THE SEED: THE CARDS: each row of YtcbglkkmblmbnaaDoorRows.lean that lists a variable, with what it lists TIED to the program's text (the seventh form; the later family's looks); each row that meets fmt, with fmt's text TOLD by the authors' own Lean function (tested against real Go, not proved from fmt's source: count such statements apart). THE CARD IS WHAT COUNTS. Prove the row's statement (the work); the ties are given (YtcbglkkmblmbnaaDoorTie.lean); close each card by the builder's one call (the guide's Derived/Test/ToyasCard.lean, 'card_holds'). Laid BY PROGRAM, IN A SANDBOX (cutbox-door.mjs). By AI agents, Wed Nov 11 2026. No macro, syntax, notation, axiom, sorry.
-/
import Derived.Test.YtcbglkkmblmbnaaDoorRows
import GoSem.ClaimSeven
namespace Go.Proofs.YtcbglkkmblmbnaaDoor
namespace Rows

/-- THE TIED CARD OF 'tithelaw2.RoundShared'. -/
def roundSharedCard : Claim7 := { stood := { row := roundSharedRow, standIns := [], harness := (true, "ba9c6b482e4f49023069d414c2c15acc56691e4f3508f662e3825bdd693cebb3"), looks := true }, kinds := [], alts := [], laidByText := true, laidKinds := [.sentinel, .sentinel, .sentinel, .sentinel, .sentinel, .sentinel, .data], laidTests := true, laidLooks := .later }
def RoundSharedCardSaid : Prop := Claim7.holds Tryd.pinned (.plain (OpenSpec.ofChange roundSharedSpec)) roundSharedCard

/-- THE TIED CARD OF 'tithelaw2.RoundOrder'. -/
def roundOrderCard : Claim7 := { stood := { row := roundOrderRow, standIns := [], harness := (true, "ba9c6b482e4f49023069d414c2c15acc56691e4f3508f662e3825bdd693cebb3"), looks := true }, kinds := [], alts := [], laidByText := true, laidKinds := [.sentinel, .sentinel, .sentinel, .sentinel, .sentinel, .sentinel, .data], laidTests := true, laidLooks := .later }
def RoundOrderCardSaid : Prop := Claim7.holds Tryd.pinned (.plain (OpenSpec.ofChange roundOrderSpec)) roundOrderCard

/-- THE TIED CARD OF 'tithelaw2.RoundAgain'. -/
def roundAgainCard : Claim7 := { stood := { row := roundAgainRow, standIns := [], harness := (true, "ba9c6b482e4f49023069d414c2c15acc56691e4f3508f662e3825bdd693cebb3"), looks := true }, kinds := [], alts := [], laidByText := true, laidKinds := [.sentinel, .sentinel, .sentinel, .sentinel, .sentinel, .sentinel, .data], laidTests := true, laidLooks := .later }
def RoundAgainCardSaid : Prop := Claim7.holds Tryd.pinned (.plain (OpenSpec.ofChange roundAgainSpec)) roundAgainCard

/-- THE TIED CARD OF 'tithelaw2.RoundOnce'. -/
def roundOnceCard : Claim7 := { stood := { row := roundOnceRow, standIns := [], harness := (true, "ba9c6b482e4f49023069d414c2c15acc56691e4f3508f662e3825bdd693cebb3"), looks := true }, kinds := [], alts := [], laidByText := true, laidKinds := [.sentinel, .sentinel, .sentinel, .sentinel, .sentinel, .sentinel, .data], laidTests := true, laidLooks := .later }
def RoundOnceCardSaid : Prop := Claim7.holds Tryd.pinned (.plain (OpenSpec.ofChange roundOnceSpec)) roundOnceCard

/-- THE TIED CARD OF 'tithelaw16.IndexNear'. -/
def indexNearCard : Claim7 := { stood := { row := indexNearRow, standIns := [], harness := (true, "ba9c6b482e4f49023069d414c2c15acc56691e4f3508f662e3825bdd693cebb3"), looks := true }, kinds := [], alts := [], laidByText := true, laidKinds := [.sentinel, .sentinel, .sentinel, .sentinel, .sentinel], laidTests := true, laidLooks := .later }
def IndexNearCardSaid : Prop := Claim7.holds Tryd.pinned (.plain (OpenSpec.ofChange indexNearSpec)) indexNearCard

/-- THE TIED CARD OF 'tithelaw16.IndexRises'. -/
def indexRisesCard : Claim7 := { stood := { row := indexRisesRow, standIns := [], harness := (true, "ba9c6b482e4f49023069d414c2c15acc56691e4f3508f662e3825bdd693cebb3"), looks := true }, kinds := [], alts := [], laidByText := true, laidKinds := [.sentinel, .sentinel, .sentinel, .sentinel, .sentinel], laidTests := true, laidLooks := .later }
def IndexRisesCardSaid : Prop := Claim7.holds Tryd.pinned (.plain (OpenSpec.ofChange indexRisesSpec)) indexRisesCard

/-- THE TIED CARD OF 'tithelaw16.IndexThrough'. -/
def indexThroughCard : Claim7 := { stood := { row := indexThroughRow, standIns := [], harness := (true, "ba9c6b482e4f49023069d414c2c15acc56691e4f3508f662e3825bdd693cebb3"), looks := true }, kinds := [], alts := [], laidByText := true, laidKinds := [.sentinel, .sentinel, .sentinel, .sentinel, .sentinel], laidTests := true, laidLooks := .later }
def IndexThroughCardSaid : Prop := Claim7.holds Tryd.pinned (.plain (OpenSpec.ofChange indexThroughSpec)) indexThroughCard

/-- THE TIED CARD OF 'tithelaw16.IndexGives'. -/
def indexGivesCard : Claim7 := { stood := { row := indexGivesRow, standIns := [], harness := (true, "ba9c6b482e4f49023069d414c2c15acc56691e4f3508f662e3825bdd693cebb3"), looks := true }, kinds := [], alts := [], laidByText := true, laidKinds := [.sentinel, .sentinel, .sentinel, .sentinel, .sentinel], laidTests := true, laidLooks := .later }
def IndexGivesCardSaid : Prop := Claim7.holds Tryd.pinned (.plain (OpenSpec.ofChange indexGivesSpec)) indexGivesCard

/-- THE TIED CARD OF 'tithelaw16.IndexBrackets'. -/
def indexBracketsCard : Claim7 := { stood := { row := indexBracketsRow, standIns := [], harness := (true, "ba9c6b482e4f49023069d414c2c15acc56691e4f3508f662e3825bdd693cebb3"), looks := true }, kinds := [], alts := [], laidByText := true, laidKinds := [.sentinel, .sentinel, .sentinel, .sentinel, .sentinel, .sentinel], laidTests := true, laidLooks := .later }
def IndexBracketsCardSaid : Prop := Claim7.holds Tryd.pinned (.plain (OpenSpec.ofChange indexBracketsSpec)) indexBracketsCard

/-- THE SECOND FORM's CARD OF 'tithelaw2.RoundShared'. -/
def roundSharedUptoCard : Claim7 := { stood := { row := roundSharedUptoRow, standIns := [], harness := (true, "ba9c6b482e4f49023069d414c2c15acc56691e4f3508f662e3825bdd693cebb3"), looks := true }, kinds := [], alts := [], laidByText := true, laidKinds := [.sentinel, .sentinel, .sentinel, .sentinel, .sentinel, .sentinel, .data], laidTests := true, laidLooks := .later }
def RoundSharedUptoCardSaid : Prop := Claim7.holds Tryd.pinned (.plain (OpenSpec.upto roundSharedSpec)) roundSharedUptoCard

/-- THE SECOND FORM's CARD OF 'tithelaw2.RoundOrder'. -/
def roundOrderUptoCard : Claim7 := { stood := { row := roundOrderUptoRow, standIns := [], harness := (true, "ba9c6b482e4f49023069d414c2c15acc56691e4f3508f662e3825bdd693cebb3"), looks := true }, kinds := [], alts := [], laidByText := true, laidKinds := [.sentinel, .sentinel, .sentinel, .sentinel, .sentinel, .sentinel, .data], laidTests := true, laidLooks := .later }
def RoundOrderUptoCardSaid : Prop := Claim7.holds Tryd.pinned (.plain (OpenSpec.upto roundOrderSpec)) roundOrderUptoCard

/-- THE SECOND FORM's CARD OF 'tithelaw2.RoundAgain'. -/
def roundAgainUptoCard : Claim7 := { stood := { row := roundAgainUptoRow, standIns := [], harness := (true, "ba9c6b482e4f49023069d414c2c15acc56691e4f3508f662e3825bdd693cebb3"), looks := true }, kinds := [], alts := [], laidByText := true, laidKinds := [.sentinel, .sentinel, .sentinel, .sentinel, .sentinel, .sentinel, .data], laidTests := true, laidLooks := .later }
def RoundAgainUptoCardSaid : Prop := Claim7.holds Tryd.pinned (.plain (OpenSpec.upto roundAgainSpec)) roundAgainUptoCard

/-- THE SECOND FORM's CARD OF 'tithelaw2.RoundOnce'. -/
def roundOnceUptoCard : Claim7 := { stood := { row := roundOnceUptoRow, standIns := [], harness := (true, "ba9c6b482e4f49023069d414c2c15acc56691e4f3508f662e3825bdd693cebb3"), looks := true }, kinds := [], alts := [], laidByText := true, laidKinds := [.sentinel, .sentinel, .sentinel, .sentinel, .sentinel, .sentinel, .data], laidTests := true, laidLooks := .later }
def RoundOnceUptoCardSaid : Prop := Claim7.holds Tryd.pinned (.plain (OpenSpec.upto roundOnceSpec)) roundOnceUptoCard

/-- THE SECOND FORM's CARD OF 'tithelaw16.IndexNear'. -/
def indexNearUptoCard : Claim7 := { stood := { row := indexNearUptoRow, standIns := [], harness := (true, "ba9c6b482e4f49023069d414c2c15acc56691e4f3508f662e3825bdd693cebb3"), looks := true }, kinds := [], alts := [], laidByText := true, laidKinds := [.sentinel, .sentinel, .sentinel, .sentinel, .sentinel], laidTests := true, laidLooks := .later }
def IndexNearUptoCardSaid : Prop := Claim7.holds Tryd.pinned (.plain (OpenSpec.upto indexNearSpec)) indexNearUptoCard

/-- THE SECOND FORM's CARD OF 'tithelaw16.IndexRises'. -/
def indexRisesUptoCard : Claim7 := { stood := { row := indexRisesUptoRow, standIns := [], harness := (true, "ba9c6b482e4f49023069d414c2c15acc56691e4f3508f662e3825bdd693cebb3"), looks := true }, kinds := [], alts := [], laidByText := true, laidKinds := [.sentinel, .sentinel, .sentinel, .sentinel, .sentinel], laidTests := true, laidLooks := .later }
def IndexRisesUptoCardSaid : Prop := Claim7.holds Tryd.pinned (.plain (OpenSpec.upto indexRisesSpec)) indexRisesUptoCard

/-- THE SECOND FORM's CARD OF 'tithelaw16.IndexThrough'. -/
def indexThroughUptoCard : Claim7 := { stood := { row := indexThroughUptoRow, standIns := [], harness := (true, "ba9c6b482e4f49023069d414c2c15acc56691e4f3508f662e3825bdd693cebb3"), looks := true }, kinds := [], alts := [], laidByText := true, laidKinds := [.sentinel, .sentinel, .sentinel, .sentinel, .sentinel], laidTests := true, laidLooks := .later }
def IndexThroughUptoCardSaid : Prop := Claim7.holds Tryd.pinned (.plain (OpenSpec.upto indexThroughSpec)) indexThroughUptoCard

/-- THE SECOND FORM's CARD OF 'tithelaw16.IndexGives'. -/
def indexGivesUptoCard : Claim7 := { stood := { row := indexGivesUptoRow, standIns := [], harness := (true, "ba9c6b482e4f49023069d414c2c15acc56691e4f3508f662e3825bdd693cebb3"), looks := true }, kinds := [], alts := [], laidByText := true, laidKinds := [.sentinel, .sentinel, .sentinel, .sentinel, .sentinel], laidTests := true, laidLooks := .later }
def IndexGivesUptoCardSaid : Prop := Claim7.holds Tryd.pinned (.plain (OpenSpec.upto indexGivesSpec)) indexGivesUptoCard

/-- THE SECOND FORM's CARD OF 'tithelaw16.IndexBrackets'. -/
def indexBracketsUptoCard : Claim7 := { stood := { row := indexBracketsUptoRow, standIns := [], harness := (true, "ba9c6b482e4f49023069d414c2c15acc56691e4f3508f662e3825bdd693cebb3"), looks := true }, kinds := [], alts := [], laidByText := true, laidKinds := [.sentinel, .sentinel, .sentinel, .sentinel, .sentinel, .sentinel], laidTests := true, laidLooks := .later }
def IndexBracketsUptoCardSaid : Prop := Claim7.holds Tryd.pinned (.plain (OpenSpec.upto indexBracketsSpec)) indexBracketsUptoCard
end Rows
end Go.Proofs.YtcbglkkmblmbnaaDoor
