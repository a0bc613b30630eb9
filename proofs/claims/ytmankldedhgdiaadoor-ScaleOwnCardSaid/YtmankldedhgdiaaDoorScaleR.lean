/- The walk of ScaleRises. -/
import Derived.Test.YtmankldedhgdiaaDoorScaleH
import Derived.Test.YtmankldedhgdiaaDoorScaleL
namespace Go.Proofs.YtmankldedhgdiaaDoor
open Go.RowKit

theorem refv_is (n d : Int) (b : Bool) (w : World) (h : validB n d = b) (n1 : -9223372036854775808 ≤ n) (n2 : n ≤ 9223372036854775807) (d1 : -9223372036854775808 ≤ d) (d2 : d ≤ 9223372036854775807) :
    Calls Tryd.prog 6 #[.agg #[.int .i64 n, .int .i64 d]] w fun e w' => e = .returned (.bool b) ∧ Below w.heap.size w w' := by
  subst h; exact refValid_any n d w n1 n2 d1 d2

theorem refCmp_is (p q : Rat) (c : Int) (w : World) (hp : Good p) (hq : Good q) (h : cmpQ p q = c) :
    Calls Tryd.prog 25 #[.agg #[.int .i64 p.num, .int .i64 p.den], .agg #[.int .i64 q.num, .int .i64 q.den]] w fun e w' => e = .returned (.int .i64 c) ∧ Below w.heap.size w w' := by
  subst h; exact refCmp_any p q w hp hq

theorem cmp_small (p q : Rat) : -1 ≤ cmpQ p q ∧ cmpQ p q ≤ 1 := by
  unfold cmpQ
  split
  · omega
  · split <;> omega

end Go.Proofs.YtmankldedhgdiaaDoor
