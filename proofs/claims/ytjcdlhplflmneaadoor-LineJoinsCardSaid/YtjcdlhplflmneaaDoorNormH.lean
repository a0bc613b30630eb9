/- The walk of LineJoins. -/
import Derived.Test.YtjcdlhplflmneaaDoorNormG
namespace Go.Proofs.YtjcdlhplflmneaaDoor
open Go.RowKit

theorem lineJoins_walk (l k : List (Pc Int)) (A B : Option Addr) (c d : Nat) (nn : Bool) (n : Int) (w : World) (hl : RowAt encP 3 w w.heap.size A l) (hk : RowAt encP 3 w w.heap.size B k) (hm : l.length ≤ 9223372036854775807) (hm2 : k.length ≤ 9223372036854775807) :
    Calls Tryd.prog 6 #[.slice A l.length c, .slice B k.length d, .bool nn, .int .i64 n] w fun e w' => e = .returned (.bool true) ∧ Below w.heap.size w w' := by
  by_cases hg : GoodL l
  · by_cases hh : GoodL k
    · exact joins_good l k A B c d nn n w hl hk hg hh
    · exact joins_badK l k A B c d nn n w hl hk hm2 hg hh
  · exact joins_badL l k A B c d nn n w hl hk hm hm2 hg

end Go.Proofs.YtjcdlhplflmneaaDoor
