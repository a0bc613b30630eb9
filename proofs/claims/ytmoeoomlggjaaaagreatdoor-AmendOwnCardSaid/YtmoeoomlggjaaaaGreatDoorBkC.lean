/- prov.none, unused: walks. -/
import Derived.Test.YtmoeoomlggjaaaaGreatDoorBkB
namespace Go.Proofs.YtmoeoomlggjaaaaGreatDoor
open Go.RowKit

/-- what none tells -/
def noneB (n d : Int) : Bool := n == 0 && d == 0
/-- what unused tells -/
def unusedB (k n d : Int) (l : Nat) (r : ByteArray) (mode un ud : Int) : Bool := if (k != 1 && !noneB n d) || (k != 2 && decide (0 < l)) then false else (k == 3 || (r.toList.isEmpty && (mode == 0 && noneB un ud)))

end Go.Proofs.YtmoeoomlggjaaaaGreatDoor
