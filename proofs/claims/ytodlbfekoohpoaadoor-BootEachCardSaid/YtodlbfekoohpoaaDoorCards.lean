/-
  DERIVED. GIVEN WITH THE SEED: THE CARDS: each row of YtodlbfekoohpoaaDoorRows.lean that lists a variable, with what it lists TIED to the program's text (the seventh form; the later family's looks); each row that meets fmt, with fmt's text TOLD by the authors' own Lean function (tested against real Go, not proved from fmt's source: count such statements apart). THE CARD IS WHAT COUNTS. Prove the row's statement (the work); the ties are given (YtodlbfekoohpoaaDoorTie.lean); close each card by the builder's one call (the guide's Derived/Test/ToyasCard.lean, 'card_holds'). Laid BY PROGRAM, IN A SANDBOX (cutbox-door.mjs). By AI agents, Wed Nov 11 2026. No macro, syntax, notation, axiom, sorry.
-/
import Derived.Test.YtodlbfekoohpoaaDoorRows
import GoSem.ClaimSeven
namespace Go.Proofs.YtodlbfekoohpoaaDoor
namespace Rows

/-- THE TIED CARD OF 'tithelaw5.BootKept'. -/
def bootKeptCard : Claim7 := { stood := { row := bootKeptRow, standIns := [], harness := (true, "30082fb7165e8963c52eaa0298e5a70cf2355d1942d14dfbacd3ac815a680541"), looks := true }, kinds := [], alts := [], laidByText := true, laidKinds := [.data, .sentinel, .sentinel, .sentinel, .sentinel, .sentinel, .pinned], laidTests := true, laidLooks := .later }
def BootKeptCardSaid : Prop := Claim7.holds Tryd.pinned (.plain (OpenSpec.ofChange bootKeptSpec)) bootKeptCard

/-- THE TIED CARD OF 'tithelaw5.BootAnyOrder'. -/
def bootAnyOrderCard : Claim7 := { stood := { row := bootAnyOrderRow, standIns := [], harness := (true, "30082fb7165e8963c52eaa0298e5a70cf2355d1942d14dfbacd3ac815a680541"), looks := true }, kinds := [], alts := [], laidByText := true, laidKinds := [.data, .sentinel, .sentinel, .sentinel, .sentinel, .sentinel, .pinned], laidTests := true, laidLooks := .later }
def BootAnyOrderCardSaid : Prop := Claim7.holds Tryd.pinned (.plain (OpenSpec.ofChange bootAnyOrderSpec)) bootAnyOrderCard

/-- THE TIED CARD OF 'tithelaw5.BootCircles'. -/
def bootCirclesCard : Claim7 := { stood := { row := bootCirclesRow, standIns := [], harness := (true, "30082fb7165e8963c52eaa0298e5a70cf2355d1942d14dfbacd3ac815a680541"), looks := true }, kinds := [], alts := [], laidByText := true, laidKinds := [.data, .sentinel, .sentinel, .sentinel, .sentinel, .sentinel, .pinned], laidTests := true, laidLooks := .later }
def BootCirclesCardSaid : Prop := Claim7.holds Tryd.pinned (.plain (OpenSpec.ofChange bootCirclesSpec)) bootCirclesCard

/-- THE TIED CARD OF 'tithelaw5.BootEach'. -/
def bootEachCard : Claim7 := { stood := { row := bootEachRow, standIns := [], harness := (true, "30082fb7165e8963c52eaa0298e5a70cf2355d1942d14dfbacd3ac815a680541"), looks := true }, kinds := [], alts := [], laidByText := true, laidKinds := [.data, .sentinel, .sentinel, .sentinel, .sentinel, .sentinel, .pinned], laidTests := true, laidLooks := .later }
def BootEachCardSaid : Prop := Claim7.holds Tryd.pinned (.plain (OpenSpec.ofChange bootEachSpec)) bootEachCard

/-- THE SECOND FORM's CARD OF 'tithelaw5.BootKept'. -/
def bootKeptUptoCard : Claim7 := { stood := { row := bootKeptUptoRow, standIns := [], harness := (true, "30082fb7165e8963c52eaa0298e5a70cf2355d1942d14dfbacd3ac815a680541"), looks := true }, kinds := [], alts := [], laidByText := true, laidKinds := [.data, .sentinel, .sentinel, .sentinel, .sentinel, .sentinel, .pinned], laidTests := true, laidLooks := .later }
def BootKeptUptoCardSaid : Prop := Claim7.holds Tryd.pinned (.plain (OpenSpec.upto bootKeptSpec)) bootKeptUptoCard

/-- THE SECOND FORM's CARD OF 'tithelaw5.BootAnyOrder'. -/
def bootAnyOrderUptoCard : Claim7 := { stood := { row := bootAnyOrderUptoRow, standIns := [], harness := (true, "30082fb7165e8963c52eaa0298e5a70cf2355d1942d14dfbacd3ac815a680541"), looks := true }, kinds := [], alts := [], laidByText := true, laidKinds := [.data, .sentinel, .sentinel, .sentinel, .sentinel, .sentinel, .pinned], laidTests := true, laidLooks := .later }
def BootAnyOrderUptoCardSaid : Prop := Claim7.holds Tryd.pinned (.plain (OpenSpec.upto bootAnyOrderSpec)) bootAnyOrderUptoCard

/-- THE SECOND FORM's CARD OF 'tithelaw5.BootCircles'. -/
def bootCirclesUptoCard : Claim7 := { stood := { row := bootCirclesUptoRow, standIns := [], harness := (true, "30082fb7165e8963c52eaa0298e5a70cf2355d1942d14dfbacd3ac815a680541"), looks := true }, kinds := [], alts := [], laidByText := true, laidKinds := [.data, .sentinel, .sentinel, .sentinel, .sentinel, .sentinel, .pinned], laidTests := true, laidLooks := .later }
def BootCirclesUptoCardSaid : Prop := Claim7.holds Tryd.pinned (.plain (OpenSpec.upto bootCirclesSpec)) bootCirclesUptoCard

/-- THE SECOND FORM's CARD OF 'tithelaw5.BootEach'. -/
def bootEachUptoCard : Claim7 := { stood := { row := bootEachUptoRow, standIns := [], harness := (true, "30082fb7165e8963c52eaa0298e5a70cf2355d1942d14dfbacd3ac815a680541"), looks := true }, kinds := [], alts := [], laidByText := true, laidKinds := [.data, .sentinel, .sentinel, .sentinel, .sentinel, .sentinel, .pinned], laidTests := true, laidLooks := .later }
def BootEachUptoCardSaid : Prop := Claim7.holds Tryd.pinned (.plain (OpenSpec.upto bootEachSpec)) bootEachUptoCard
end Rows
end Go.Proofs.YtodlbfekoohpoaaDoor
