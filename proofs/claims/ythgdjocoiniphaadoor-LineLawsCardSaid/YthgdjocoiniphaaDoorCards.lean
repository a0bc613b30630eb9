/-
  DERIVED. GIVEN WITH THE SEED: THE CARDS: each row of YthgdjocoiniphaaDoorRows.lean that lists a variable, with what it lists TIED to the program's text (the seventh form; the later family's looks); each row that meets fmt, with fmt's text TOLD by the authors' own Lean function (tested against real Go, not proved from fmt's source: count such statements apart). THE CARD IS WHAT COUNTS. Prove the row's statement (the work); the ties are given (YthgdjocoiniphaaDoorTie.lean); close each card by the builder's one call (the guide's Derived/Test/ToyasCard.lean, 'card_holds'). Laid BY PROGRAM, IN A SANDBOX (cutbox-door.mjs). By AI agents, Wed Nov 11 2026. No macro, syntax, notation, axiom, sorry.
-/
import Derived.Test.YthgdjocoiniphaaDoorRows
import GoSem.ClaimSeven
namespace Go.Proofs.YthgdjocoiniphaaDoor
namespace Rows

/-- THE TIED CARD OF 'tithelaw15.ScaleTops'. -/
def scaleTopsCard : Claim7 := { stood := { row := scaleTopsRow, standIns := [], harness := (true, "e192deaafae83d34a16c76dd5e3ece7559cb67c706ffee312e3ab7f73287bcac"), looks := true }, kinds := [], alts := [], laidByText := true, laidKinds := [.sentinel, .sentinel, .sentinel, .sentinel, .sentinel, .sentinel], laidTests := true, laidLooks := .later }
def ScaleTopsCardSaid : Prop := Claim7.holds Tryd.pinned (.plain (OpenSpec.ofChange scaleTopsSpec)) scaleTopsCard

/-- THE TIED CARD OF 'tithelaw15.ScaleOwn'. -/
def scaleOwnCard : Claim7 := { stood := { row := scaleOwnRow, standIns := [], harness := (true, "e192deaafae83d34a16c76dd5e3ece7559cb67c706ffee312e3ab7f73287bcac"), looks := true }, kinds := [], alts := [], laidByText := true, laidKinds := [.sentinel, .sentinel, .sentinel, .sentinel, .sentinel, .sentinel], laidTests := true, laidLooks := .later }
def ScaleOwnCardSaid : Prop := Claim7.holds Tryd.pinned (.plain (OpenSpec.ofChange scaleOwnSpec)) scaleOwnCard

/-- THE TIED CARD OF 'tithelaw6.LineAll'. -/
def lineAllCard : Claim7 := { stood := { row := lineAllRow, standIns := [], harness := (true, "e192deaafae83d34a16c76dd5e3ece7559cb67c706ffee312e3ab7f73287bcac"), looks := true }, kinds := [], alts := [], laidByText := true, laidKinds := [.sentinel], laidTests := true, laidLooks := .later }
def LineAllCardSaid : Prop := Claim7.holds Tryd.pinned (.plain (OpenSpec.ofChange lineAllSpec)) lineAllCard

/-- THE TIED CARD OF 'tithelaw6.LineLaws'. -/
def lineLawsCard : Claim7 := { stood := { row := lineLawsRow, standIns := [], harness := (true, "e192deaafae83d34a16c76dd5e3ece7559cb67c706ffee312e3ab7f73287bcac"), looks := true }, kinds := [], alts := [], laidByText := true, laidKinds := [.sentinel], laidTests := true, laidLooks := .later }
def LineLawsCardSaid : Prop := Claim7.holds Tryd.pinned (.plain (OpenSpec.ofChange lineLawsSpec)) lineLawsCard

/-- THE TIED CARD OF 'tithelaw6.LineLaid'. -/
def lineLaidCard : Claim7 := { stood := { row := lineLaidRow, standIns := [], harness := (true, "e192deaafae83d34a16c76dd5e3ece7559cb67c706ffee312e3ab7f73287bcac"), looks := true }, kinds := [], alts := [], laidByText := true, laidKinds := [.sentinel], laidTests := true, laidLooks := .later }
def LineLaidCardSaid : Prop := Claim7.holds Tryd.pinned (.plain (OpenSpec.ofChange lineLaidSpec)) lineLaidCard

/-- THE TIED CARD OF 'tithelaw3.DayYears'. -/
def dayYearsCard : Claim7 := { stood := { row := dayYearsRow, standIns := [], harness := (true, "e192deaafae83d34a16c76dd5e3ece7559cb67c706ffee312e3ab7f73287bcac"), looks := true }, kinds := [], alts := [], laidByText := true, laidKinds := [.data, .data, .data, .sentinel, .sentinel, .data], laidTests := true, laidLooks := .later }
def DayYearsCardSaid : Prop := Claim7.holds Tryd.pinned (.plain (OpenSpec.ofChange dayYearsSpec)) dayYearsCard

/-- THE TIED CARD OF 'tithelaw3.DayEach'. -/
def dayEachCard : Claim7 := { stood := { row := dayEachRow, standIns := [], harness := (true, "e192deaafae83d34a16c76dd5e3ece7559cb67c706ffee312e3ab7f73287bcac"), looks := true }, kinds := [], alts := [], laidByText := true, laidKinds := [.data, .data, .data, .sentinel, .sentinel, .data], laidTests := true, laidLooks := .later }
def DayEachCardSaid : Prop := Claim7.holds Tryd.pinned (.plain (OpenSpec.ofChange dayEachSpec)) dayEachCard

/-- THE TIED CARD OF 'tithelaw3.DayOwn'. -/
def dayOwnCard : Claim7 := { stood := { row := dayOwnRow, standIns := [], harness := (true, "e192deaafae83d34a16c76dd5e3ece7559cb67c706ffee312e3ab7f73287bcac"), looks := true }, kinds := [], alts := [], laidByText := true, laidKinds := [.data, .data, .data, .sentinel, .sentinel, .data], laidTests := true, laidLooks := .later }
def DayOwnCardSaid : Prop := Claim7.holds Tryd.pinned (.plain (OpenSpec.ofChange dayOwnSpec)) dayOwnCard

/-- THE TIED CARD OF 'tithelaw3.DayNext'. -/
def dayNextCard : Claim7 := { stood := { row := dayNextRow, standIns := [], harness := (true, "e192deaafae83d34a16c76dd5e3ece7559cb67c706ffee312e3ab7f73287bcac"), looks := true }, kinds := [], alts := [], laidByText := true, laidKinds := [.data, .data, .data, .sentinel, .sentinel, .sentinel, .data], laidTests := true, laidLooks := .later }
def DayNextCardSaid : Prop := Claim7.holds Tryd.pinned (.plain (OpenSpec.ofChange dayNextSpec)) dayNextCard

/-- THE TIED CARD OF 'tithelaw3.DayByDay'. -/
def dayByDayCard : Claim7 := { stood := { row := dayByDayRow, standIns := [], harness := (true, "e192deaafae83d34a16c76dd5e3ece7559cb67c706ffee312e3ab7f73287bcac"), looks := true }, kinds := [], alts := [], laidByText := true, laidKinds := [.data, .data, .data, .sentinel, .sentinel, .data], laidTests := true, laidLooks := .later }
def DayByDayCardSaid : Prop := Claim7.holds Tryd.pinned (.plain (OpenSpec.ofChange dayByDaySpec)) dayByDayCard

/-- THE TIED CARD OF 'tithelaw3.DayZero'. -/
def dayZeroCard : Claim7 := { stood := { row := dayZeroRow, standIns := [], harness := (true, "e192deaafae83d34a16c76dd5e3ece7559cb67c706ffee312e3ab7f73287bcac"), looks := true }, kinds := [], alts := [], laidByText := true, laidKinds := [.data, .data, .data, .sentinel, .sentinel, .data], laidTests := true, laidLooks := .later }
def DayZeroCardSaid : Prop := Claim7.holds Tryd.pinned (.plain (OpenSpec.ofChange dayZeroSpec)) dayZeroCard

/-- THE SECOND FORM's CARD OF 'tithelaw15.ScaleTops'. -/
def scaleTopsUptoCard : Claim7 := { stood := { row := scaleTopsUptoRow, standIns := [], harness := (true, "e192deaafae83d34a16c76dd5e3ece7559cb67c706ffee312e3ab7f73287bcac"), looks := true }, kinds := [], alts := [], laidByText := true, laidKinds := [.sentinel, .sentinel, .sentinel, .sentinel, .sentinel, .sentinel], laidTests := true, laidLooks := .later }
def ScaleTopsUptoCardSaid : Prop := Claim7.holds Tryd.pinned (.plain (OpenSpec.upto scaleTopsSpec)) scaleTopsUptoCard

/-- THE SECOND FORM's CARD OF 'tithelaw15.ScaleOwn'. -/
def scaleOwnUptoCard : Claim7 := { stood := { row := scaleOwnUptoRow, standIns := [], harness := (true, "e192deaafae83d34a16c76dd5e3ece7559cb67c706ffee312e3ab7f73287bcac"), looks := true }, kinds := [], alts := [], laidByText := true, laidKinds := [.sentinel, .sentinel, .sentinel, .sentinel, .sentinel, .sentinel], laidTests := true, laidLooks := .later }
def ScaleOwnUptoCardSaid : Prop := Claim7.holds Tryd.pinned (.plain (OpenSpec.upto scaleOwnSpec)) scaleOwnUptoCard

/-- THE SECOND FORM's CARD OF 'tithelaw6.LineAll'. -/
def lineAllUptoCard : Claim7 := { stood := { row := lineAllUptoRow, standIns := [], harness := (true, "e192deaafae83d34a16c76dd5e3ece7559cb67c706ffee312e3ab7f73287bcac"), looks := true }, kinds := [], alts := [], laidByText := true, laidKinds := [.sentinel], laidTests := true, laidLooks := .later }
def LineAllUptoCardSaid : Prop := Claim7.holds Tryd.pinned (.plain (OpenSpec.upto lineAllSpec)) lineAllUptoCard

/-- THE SECOND FORM's CARD OF 'tithelaw6.LineLaws'. -/
def lineLawsUptoCard : Claim7 := { stood := { row := lineLawsUptoRow, standIns := [], harness := (true, "e192deaafae83d34a16c76dd5e3ece7559cb67c706ffee312e3ab7f73287bcac"), looks := true }, kinds := [], alts := [], laidByText := true, laidKinds := [.sentinel], laidTests := true, laidLooks := .later }
def LineLawsUptoCardSaid : Prop := Claim7.holds Tryd.pinned (.plain (OpenSpec.upto lineLawsSpec)) lineLawsUptoCard

/-- THE SECOND FORM's CARD OF 'tithelaw6.LineLaid'. -/
def lineLaidUptoCard : Claim7 := { stood := { row := lineLaidUptoRow, standIns := [], harness := (true, "e192deaafae83d34a16c76dd5e3ece7559cb67c706ffee312e3ab7f73287bcac"), looks := true }, kinds := [], alts := [], laidByText := true, laidKinds := [.sentinel], laidTests := true, laidLooks := .later }
def LineLaidUptoCardSaid : Prop := Claim7.holds Tryd.pinned (.plain (OpenSpec.upto lineLaidSpec)) lineLaidUptoCard

/-- THE SECOND FORM's CARD OF 'tithelaw3.DayYears'. -/
def dayYearsUptoCard : Claim7 := { stood := { row := dayYearsUptoRow, standIns := [], harness := (true, "e192deaafae83d34a16c76dd5e3ece7559cb67c706ffee312e3ab7f73287bcac"), looks := true }, kinds := [], alts := [], laidByText := true, laidKinds := [.data, .data, .data, .sentinel, .sentinel, .data], laidTests := true, laidLooks := .later }
def DayYearsUptoCardSaid : Prop := Claim7.holds Tryd.pinned (.plain (OpenSpec.upto dayYearsSpec)) dayYearsUptoCard

/-- THE SECOND FORM's CARD OF 'tithelaw3.DayEach'. -/
def dayEachUptoCard : Claim7 := { stood := { row := dayEachUptoRow, standIns := [], harness := (true, "e192deaafae83d34a16c76dd5e3ece7559cb67c706ffee312e3ab7f73287bcac"), looks := true }, kinds := [], alts := [], laidByText := true, laidKinds := [.data, .data, .data, .sentinel, .sentinel, .data], laidTests := true, laidLooks := .later }
def DayEachUptoCardSaid : Prop := Claim7.holds Tryd.pinned (.plain (OpenSpec.upto dayEachSpec)) dayEachUptoCard

/-- THE SECOND FORM's CARD OF 'tithelaw3.DayOwn'. -/
def dayOwnUptoCard : Claim7 := { stood := { row := dayOwnUptoRow, standIns := [], harness := (true, "e192deaafae83d34a16c76dd5e3ece7559cb67c706ffee312e3ab7f73287bcac"), looks := true }, kinds := [], alts := [], laidByText := true, laidKinds := [.data, .data, .data, .sentinel, .sentinel, .data], laidTests := true, laidLooks := .later }
def DayOwnUptoCardSaid : Prop := Claim7.holds Tryd.pinned (.plain (OpenSpec.upto dayOwnSpec)) dayOwnUptoCard

/-- THE SECOND FORM's CARD OF 'tithelaw3.DayNext'. -/
def dayNextUptoCard : Claim7 := { stood := { row := dayNextUptoRow, standIns := [], harness := (true, "e192deaafae83d34a16c76dd5e3ece7559cb67c706ffee312e3ab7f73287bcac"), looks := true }, kinds := [], alts := [], laidByText := true, laidKinds := [.data, .data, .data, .sentinel, .sentinel, .sentinel, .data], laidTests := true, laidLooks := .later }
def DayNextUptoCardSaid : Prop := Claim7.holds Tryd.pinned (.plain (OpenSpec.upto dayNextSpec)) dayNextUptoCard

/-- THE SECOND FORM's CARD OF 'tithelaw3.DayByDay'. -/
def dayByDayUptoCard : Claim7 := { stood := { row := dayByDayUptoRow, standIns := [], harness := (true, "e192deaafae83d34a16c76dd5e3ece7559cb67c706ffee312e3ab7f73287bcac"), looks := true }, kinds := [], alts := [], laidByText := true, laidKinds := [.data, .data, .data, .sentinel, .sentinel, .data], laidTests := true, laidLooks := .later }
def DayByDayUptoCardSaid : Prop := Claim7.holds Tryd.pinned (.plain (OpenSpec.upto dayByDaySpec)) dayByDayUptoCard

/-- THE SECOND FORM's CARD OF 'tithelaw3.DayZero'. -/
def dayZeroUptoCard : Claim7 := { stood := { row := dayZeroUptoRow, standIns := [], harness := (true, "e192deaafae83d34a16c76dd5e3ece7559cb67c706ffee312e3ab7f73287bcac"), looks := true }, kinds := [], alts := [], laidByText := true, laidKinds := [.data, .data, .data, .sentinel, .sentinel, .data], laidTests := true, laidLooks := .later }
def DayZeroUptoCardSaid : Prop := Claim7.holds Tryd.pinned (.plain (OpenSpec.upto dayZeroSpec)) dayZeroUptoCard
end Rows
end Go.Proofs.YthgdjocoiniphaaDoor
