/- text.Key; prov.kindOf: walks. -/
import Derived.Test.YtmoeoomlggjaaaaGreatDoorBkA
namespace Go.Proofs.YtmoeoomlggjaaaaGreatDoor
open Go.RowKit

def isP (s : ByteArray) : Bool := s.toList == [112]
def isS (s : ByteArray) : Bool := s.toList == [115]
def isLine (s : ByteArray) : Bool := s.toList == [108, 105, 110, 101]
def keyB (s : ByteArray) : Bool := nameB s && (!(restB s).toList.isEmpty && (isP (spaceB s) || (isS (spaceB s) || isLine (spaceB s))))
def kindB (s : ByteArray) : Int := if isP (spaceB s) then 1 else if isS (spaceB s) then 2 else 3

end Go.Proofs.YtmoeoomlggjaaaaGreatDoor
