/-
  DERIVED. GIVEN WITH THE SEED: THE CARDS: each row of YtbmkbhclkaopaaaDoorRows.lean that lists a variable, with what it lists TIED to the program's text (the seventh form; the later family's looks); each row that meets fmt, with fmt's text TOLD by the authors' own Lean function (tested against real Go, not proved from fmt's source: count such statements apart). THE CARD IS WHAT COUNTS. Prove the row's statement (the work); the ties are given (YtbmkbhclkaopaaaDoorTie.lean); close each card by the builder's one call (the guide's Derived/Test/ToyasCard.lean, 'card_holds'). Laid BY PROGRAM, IN A SANDBOX (cutbox-door.mjs). By AI agents, Wed Nov 11 2026. No macro, syntax, notation, axiom, sorry.
-/
import Derived.Test.YtbmkbhclkaopaaaDoorRows
import GoSem.ClaimSeven
namespace Go.Proofs.YtbmkbhclkaopaaaDoor
namespace Rows

/-- THE TIED CARD OF 'tithelaw1.FracTells'. -/
def fracTellsCard : Claim7 := { stood := { row := fracTellsRow, standIns := [], harness := (true, "066a987644ba9f37e7cff140851e34117bc04adefd7aa2973056a4598573d85e"), looks := true }, kinds := [], alts := [], laidByText := true, laidKinds := [.sentinel, .sentinel, .sentinel], laidTests := true, laidLooks := .later }
def FracTellsCardSaid : Prop := Claim7.holds Tryd.pinned (.plain (OpenSpec.ofChange fracTellsSpec)) fracTellsCard

/-- THE TIED CARD OF 'tithelaw1.FracField'. -/
def fracFieldCard : Claim7 := { stood := { row := fracFieldRow, standIns := [], harness := (true, "066a987644ba9f37e7cff140851e34117bc04adefd7aa2973056a4598573d85e"), looks := true }, kinds := [], alts := [], laidByText := true, laidKinds := [.sentinel, .sentinel, .sentinel], laidTests := true, laidLooks := .later }
def FracFieldCardSaid : Prop := Claim7.holds Tryd.pinned (.plain (OpenSpec.ofChange fracFieldSpec)) fracFieldCard

/-- THE TIED CARD OF 'tithelaw1.FracOrder'. -/
def fracOrderCard : Claim7 := { stood := { row := fracOrderRow, standIns := [], harness := (true, "066a987644ba9f37e7cff140851e34117bc04adefd7aa2973056a4598573d85e"), looks := true }, kinds := [], alts := [], laidByText := true, laidKinds := [.sentinel, .sentinel, .sentinel], laidTests := true, laidLooks := .later }
def FracOrderCardSaid : Prop := Claim7.holds Tryd.pinned (.plain (OpenSpec.ofChange fracOrderSpec)) fracOrderCard

/-- THE TIED CARD OF 'tithelaw1.FracWhole'. -/
def fracWholeCard : Claim7 := { stood := { row := fracWholeRow, standIns := [], harness := (true, "066a987644ba9f37e7cff140851e34117bc04adefd7aa2973056a4598573d85e"), looks := true }, kinds := [], alts := [], laidByText := true, laidKinds := [.sentinel, .sentinel, .sentinel], laidTests := true, laidLooks := .later }
def FracWholeCardSaid : Prop := Claim7.holds Tryd.pinned (.plain (OpenSpec.ofChange fracWholeSpec)) fracWholeCard

/-- THE TIED CARD OF 'tithelaw1.FracBack'. -/
def fracBackCard : Claim7 := { stood := { row := fracBackRow, standIns := [], harness := (true, "066a987644ba9f37e7cff140851e34117bc04adefd7aa2973056a4598573d85e"), looks := true }, kinds := [], alts := [], laidByText := true, laidKinds := [.sentinel, .sentinel, .sentinel], laidTests := true, laidLooks := .later }
def FracBackCardSaid : Prop := Claim7.holds Tryd.pinned (.plain (OpenSpec.ofChange fracBackSpec)) fracBackCard

/-- THE TIED CARD OF 'tithelaw1.FracSums'. -/
def fracSumsCard : Claim7 := { stood := { row := fracSumsRow, standIns := [], harness := (true, "066a987644ba9f37e7cff140851e34117bc04adefd7aa2973056a4598573d85e"), looks := true }, kinds := [], alts := [], laidByText := true, laidKinds := [.sentinel, .sentinel, .sentinel], laidTests := true, laidLooks := .later }
def FracSumsCardSaid : Prop := Claim7.holds Tryd.pinned (.plain (OpenSpec.ofChange fracSumsSpec)) fracSumsCard

/-- THE SECOND FORM's CARD OF 'tithelaw1.FracTells'. -/
def fracTellsUptoCard : Claim7 := { stood := { row := fracTellsUptoRow, standIns := [], harness := (true, "066a987644ba9f37e7cff140851e34117bc04adefd7aa2973056a4598573d85e"), looks := true }, kinds := [], alts := [], laidByText := true, laidKinds := [.sentinel, .sentinel, .sentinel], laidTests := true, laidLooks := .later }
def FracTellsUptoCardSaid : Prop := Claim7.holds Tryd.pinned (.plain (OpenSpec.upto fracTellsSpec)) fracTellsUptoCard

/-- THE SECOND FORM's CARD OF 'tithelaw1.FracField'. -/
def fracFieldUptoCard : Claim7 := { stood := { row := fracFieldUptoRow, standIns := [], harness := (true, "066a987644ba9f37e7cff140851e34117bc04adefd7aa2973056a4598573d85e"), looks := true }, kinds := [], alts := [], laidByText := true, laidKinds := [.sentinel, .sentinel, .sentinel], laidTests := true, laidLooks := .later }
def FracFieldUptoCardSaid : Prop := Claim7.holds Tryd.pinned (.plain (OpenSpec.upto fracFieldSpec)) fracFieldUptoCard

/-- THE SECOND FORM's CARD OF 'tithelaw1.FracOrder'. -/
def fracOrderUptoCard : Claim7 := { stood := { row := fracOrderUptoRow, standIns := [], harness := (true, "066a987644ba9f37e7cff140851e34117bc04adefd7aa2973056a4598573d85e"), looks := true }, kinds := [], alts := [], laidByText := true, laidKinds := [.sentinel, .sentinel, .sentinel], laidTests := true, laidLooks := .later }
def FracOrderUptoCardSaid : Prop := Claim7.holds Tryd.pinned (.plain (OpenSpec.upto fracOrderSpec)) fracOrderUptoCard

/-- THE SECOND FORM's CARD OF 'tithelaw1.FracWhole'. -/
def fracWholeUptoCard : Claim7 := { stood := { row := fracWholeUptoRow, standIns := [], harness := (true, "066a987644ba9f37e7cff140851e34117bc04adefd7aa2973056a4598573d85e"), looks := true }, kinds := [], alts := [], laidByText := true, laidKinds := [.sentinel, .sentinel, .sentinel], laidTests := true, laidLooks := .later }
def FracWholeUptoCardSaid : Prop := Claim7.holds Tryd.pinned (.plain (OpenSpec.upto fracWholeSpec)) fracWholeUptoCard

/-- THE SECOND FORM's CARD OF 'tithelaw1.FracBack'. -/
def fracBackUptoCard : Claim7 := { stood := { row := fracBackUptoRow, standIns := [], harness := (true, "066a987644ba9f37e7cff140851e34117bc04adefd7aa2973056a4598573d85e"), looks := true }, kinds := [], alts := [], laidByText := true, laidKinds := [.sentinel, .sentinel, .sentinel], laidTests := true, laidLooks := .later }
def FracBackUptoCardSaid : Prop := Claim7.holds Tryd.pinned (.plain (OpenSpec.upto fracBackSpec)) fracBackUptoCard

/-- THE SECOND FORM's CARD OF 'tithelaw1.FracSums'. -/
def fracSumsUptoCard : Claim7 := { stood := { row := fracSumsUptoRow, standIns := [], harness := (true, "066a987644ba9f37e7cff140851e34117bc04adefd7aa2973056a4598573d85e"), looks := true }, kinds := [], alts := [], laidByText := true, laidKinds := [.sentinel, .sentinel, .sentinel], laidTests := true, laidLooks := .later }
def FracSumsUptoCardSaid : Prop := Claim7.holds Tryd.pinned (.plain (OpenSpec.upto fracSumsSpec)) fracSumsUptoCard
end Rows
end Go.Proofs.YtbmkbhclkaopaaaDoor
