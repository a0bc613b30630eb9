/-
  NARROWER THAN 'FOR EVERY INPUT', by the rows' own cells (each row's printed sentence says how): ScaleTops: laid · ScaleOwn: laid · LineMakes: laid · LineJoins: laid · LineDays: laid · LineMaps: laid · LineAll: laid.
  DERIVED. THE GIVEN ROWS OF THIS SEAT. 7 by the template 'for every input the law returns true; each argument reads behind the call as it read before'; 0 by the template 'total and deterministic' (their statements: YtjcdlhplflmneaaDoorTotals.lean).
  GIVEN WITH THE SEED: the statements are not yours to turn. If you find one false, say at which input.
  Laid BY PROGRAM, IN A SANDBOX (cutbox-rows.mjs): the forced cells as the released guide's own fill.sh prints them over the translation d8287364d04bd28f… (all of the seat's roots in one cut). By AI agents, Wed Nov 11 2026. No macro, syntax, notation, axiom, sorry.
-/
import Derived.Test.YtjcdlhplflmneaaDoorChecked
import GoSem.Claim
import GoSem.ClaimJoined
import GoSem.ClaimMapViews
import Derived.JoinedTies
import Derived.KernelRfl
namespace Go.Proofs.YtjcdlhplflmneaaDoor
/- THE CELL 'sum', in the pinned program and in every row, IS THE sha256 OF THE DUMP (.gsa) THAT YtjcdlhplflmneaaDoorProg.lean LOADS. Nothing in Lean hashes anything: it is a label: what it is worth is what the hold of that sum in a sandbox is worth. -/
noncomputable def Tryd.pinned : Pinned := { name := "ytjcdlhplflmneaadoor", sum := "d8287364d04bd28f009bb6eb1ce445752a167677a75f1ba7bdd3ba2621aef270", checked := Tryd.checked }
namespace Rows
def none {H : Type} : Left H := { results := [], args := [] }

/- WHAT THE LISTED PACKAGE-LEVEL VARIABLES READ AS WHEN THE CALL BEGINS. Each datum BY PROGRAM (the guide's laid-datum.mjs) off the statement by which the dump's own 'gosem.cut.vars' lays the variable. In a bare row this is a premise. The card (YtjcdlhplflmneaaDoorCards.lean) ties it to the program's text. -/
def laid_tithe_api_ErrRange {H : Type} : DataW H := .iface "*errors.errorString" (.ptr (.agg [.lit (.string [97, 32, 110, 117, 109, 98, 101, 114, 32, 98, 101, 121, 111, 110, 100, 32, 116, 104, 101, 32, 114, 97, 110, 103, 101])]))
def laid_tithe_api_ErrZero {H : Type} : DataW H := .iface "*errors.errorString" (.ptr (.agg [.lit (.string [100, 105, 118, 105, 100, 101, 100, 32, 98, 121, 32, 122, 101, 114, 111])]))
def laid_tithe_api_ErrFrac {H : Type} : DataW H := .iface "*errors.errorString" (.ptr (.agg [.lit (.string [110, 111, 32, 102, 114, 97, 99, 116, 105, 111, 110])]))
def laid_tithe_api_ErrScale {H : Type} : DataW H := .iface "*errors.errorString" (.ptr (.agg [.lit (.string [110, 111, 32, 115, 99, 97, 108, 101])]))
def laid_tithe_api_ErrMany {H : Type} : DataW H := .iface "*errors.errorString" (.ptr (.agg [.lit (.string [116, 111, 111, 32, 109, 97, 110, 121])]))
def laid_tithe_api_ErrNone {H : Type} : DataW H := .iface "*errors.errorString" (.ptr (.agg [.lit (.string [116, 104, 101, 114, 101, 32, 105, 115, 32, 110, 111, 110, 101])]))
def laid_tithe_api_ErrSpan {H : Type} : DataW H := .iface "*errors.errorString" (.ptr (.agg [.lit (.string [110, 111, 32, 115, 112, 97, 110])]))

/-- 'tithelaw15.ScaleTops': WHATEVER THE INPUT: true; the input reads as it did. -/
def scaleTopsSpec : ChangeSpec := { name := "scaleTops", fn := fun _ => fun
  | [d1, d2] => { results := [.lit (.bool true)], args := [d1, d2] }
  | _ => none }
def scaleTopsRow : OpenClaim := { program := "ytjcdlhplflmneaadoor", sum := "d8287364d04bd28f009bb6eb1ce445752a167677a75f1ba7bdd3ba2621aef270", func := "tithe/tithelaw15.ScaleTops", spec := "scaleTops", unfollowed := true, recurses := true, named := ["tithe/api.ErrNone", "tithe/api.ErrScale", "tithe/api.ErrFrac", "tithe/api.ErrMany", "tithe/api.ErrZero", "tithe/api.ErrRange"], apart := false, laid := [("tithe/api.ErrRange", laid_tithe_api_ErrRange), ("tithe/api.ErrZero", laid_tithe_api_ErrZero), ("tithe/api.ErrFrac", laid_tithe_api_ErrFrac), ("tithe/api.ErrScale", laid_tithe_api_ErrScale), ("tithe/api.ErrMany", laid_tithe_api_ErrMany), ("tithe/api.ErrNone", laid_tithe_api_ErrNone)] }
def ScaleTopsSaid : Prop := scaleTopsRow.holds Tryd.pinned (OpenSpec.ofChange scaleTopsSpec)

/-- ITS FALSE NEIGHBOUR: 'it returns false'. Refute it at one input. -/
def scaleTopsWrong : ChangeSpec := { name := "scaleTops", fn := fun _ => fun
  | [d1, d2] => { results := [.lit (.bool false)], args := [d1, d2] }
  | _ => none }
def ScaleTopsWrongFalsely : Prop := scaleTopsRow.holds Tryd.pinned (OpenSpec.ofChange scaleTopsWrong)

/-- 'tithelaw15.ScaleOwn': WHATEVER THE INPUT: true; the input reads as it did. -/
def scaleOwnSpec : ChangeSpec := { name := "scaleOwn", fn := fun _ => fun
  | [d1, d2, d3, d4] => { results := [.lit (.bool true)], args := [d1, d2, d3, d4] }
  | _ => none }
def scaleOwnRow : OpenClaim := { program := "ytjcdlhplflmneaadoor", sum := "d8287364d04bd28f009bb6eb1ce445752a167677a75f1ba7bdd3ba2621aef270", func := "tithe/tithelaw15.ScaleOwn", spec := "scaleOwn", unfollowed := true, recurses := true, named := ["tithe/api.ErrNone", "tithe/api.ErrScale", "tithe/api.ErrFrac", "tithe/api.ErrMany", "tithe/api.ErrZero", "tithe/api.ErrRange"], apart := false, laid := [("tithe/api.ErrRange", laid_tithe_api_ErrRange), ("tithe/api.ErrZero", laid_tithe_api_ErrZero), ("tithe/api.ErrFrac", laid_tithe_api_ErrFrac), ("tithe/api.ErrScale", laid_tithe_api_ErrScale), ("tithe/api.ErrMany", laid_tithe_api_ErrMany), ("tithe/api.ErrNone", laid_tithe_api_ErrNone)] }
def ScaleOwnSaid : Prop := scaleOwnRow.holds Tryd.pinned (OpenSpec.ofChange scaleOwnSpec)

/-- ITS FALSE NEIGHBOUR: 'it returns false'. Refute it at one input. -/
def scaleOwnWrong : ChangeSpec := { name := "scaleOwn", fn := fun _ => fun
  | [d1, d2, d3, d4] => { results := [.lit (.bool false)], args := [d1, d2, d3, d4] }
  | _ => none }
def ScaleOwnWrongFalsely : Prop := scaleOwnRow.holds Tryd.pinned (OpenSpec.ofChange scaleOwnWrong)

/-- 'tithelaw6.LineMakes': WHATEVER THE INPUT: true; the input reads as it did. -/
def lineMakesSpec : ChangeSpec := { name := "lineMakes", fn := fun _ => fun
  | [d1, d2] => { results := [.lit (.bool true)], args := [d1, d2] }
  | _ => none }
def lineMakesRow : OpenClaim := { program := "ytjcdlhplflmneaadoor", sum := "d8287364d04bd28f009bb6eb1ce445752a167677a75f1ba7bdd3ba2621aef270", func := "tithe/tithelaw6.LineMakes", spec := "lineMakes", unfollowed := true, recurses := true, named := ["tithe/api.ErrSpan"], apart := false, laid := [("tithe/api.ErrSpan", laid_tithe_api_ErrSpan)] }
def LineMakesSaid : Prop := lineMakesRow.holds Tryd.pinned (OpenSpec.ofChange lineMakesSpec)

/-- ITS FALSE NEIGHBOUR: 'it returns false'. Refute it at one input. -/
def lineMakesWrong : ChangeSpec := { name := "lineMakes", fn := fun _ => fun
  | [d1, d2] => { results := [.lit (.bool false)], args := [d1, d2] }
  | _ => none }
def LineMakesWrongFalsely : Prop := lineMakesRow.holds Tryd.pinned (OpenSpec.ofChange lineMakesWrong)

/-- 'tithelaw6.LineJoins': WHATEVER THE INPUT: true; the input reads as it did. -/
def lineJoinsSpec : ChangeSpec := { name := "lineJoins", fn := fun _ => fun
  | [d1, d2, d3, d4] => { results := [.lit (.bool true)], args := [d1, d2, d3, d4] }
  | _ => none }
def lineJoinsRow : OpenClaim := { program := "ytjcdlhplflmneaadoor", sum := "d8287364d04bd28f009bb6eb1ce445752a167677a75f1ba7bdd3ba2621aef270", func := "tithe/tithelaw6.LineJoins", spec := "lineJoins", unfollowed := true, recurses := true, named := ["tithe/api.ErrSpan"], apart := false, laid := [("tithe/api.ErrSpan", laid_tithe_api_ErrSpan)] }
def LineJoinsSaid : Prop := lineJoinsRow.holds Tryd.pinned (OpenSpec.ofChange lineJoinsSpec)

/-- ITS FALSE NEIGHBOUR: 'it returns false'. Refute it at one input. -/
def lineJoinsWrong : ChangeSpec := { name := "lineJoins", fn := fun _ => fun
  | [d1, d2, d3, d4] => { results := [.lit (.bool false)], args := [d1, d2, d3, d4] }
  | _ => none }
def LineJoinsWrongFalsely : Prop := lineJoinsRow.holds Tryd.pinned (OpenSpec.ofChange lineJoinsWrong)

/-- 'tithelaw6.LineDays': WHATEVER THE INPUT: true; the input reads as it did. -/
def lineDaysSpec : ChangeSpec := { name := "lineDays", fn := fun _ => fun
  | [d1, d2, d3] => { results := [.lit (.bool true)], args := [d1, d2, d3] }
  | _ => none }
def lineDaysRow : OpenClaim := { program := "ytjcdlhplflmneaadoor", sum := "d8287364d04bd28f009bb6eb1ce445752a167677a75f1ba7bdd3ba2621aef270", func := "tithe/tithelaw6.LineDays", spec := "lineDays", unfollowed := true, recurses := true, named := ["tithe/api.ErrSpan"], apart := false, laid := [("tithe/api.ErrSpan", laid_tithe_api_ErrSpan)] }
def LineDaysSaid : Prop := lineDaysRow.holds Tryd.pinned (OpenSpec.ofChange lineDaysSpec)

/-- ITS FALSE NEIGHBOUR: 'it returns false'. Refute it at one input. -/
def lineDaysWrong : ChangeSpec := { name := "lineDays", fn := fun _ => fun
  | [d1, d2, d3] => { results := [.lit (.bool false)], args := [d1, d2, d3] }
  | _ => none }
def LineDaysWrongFalsely : Prop := lineDaysRow.holds Tryd.pinned (OpenSpec.ofChange lineDaysWrong)

/-- 'tithelaw6.LineMaps': WHATEVER THE INPUT: true; the input reads as it did. -/
def lineMapsSpec : ChangeSpec := { name := "lineMaps", fn := fun _ => fun
  | [d] => { results := [.lit (.bool true)], args := [d] }
  | _ => none }
def lineMapsRow : OpenClaim := { program := "ytjcdlhplflmneaadoor", sum := "d8287364d04bd28f009bb6eb1ce445752a167677a75f1ba7bdd3ba2621aef270", func := "tithe/tithelaw6.LineMaps", spec := "lineMaps", unfollowed := true, recurses := true, named := ["tithe/api.ErrSpan"], apart := false, laid := [("tithe/api.ErrSpan", laid_tithe_api_ErrSpan)] }
def LineMapsSaid : Prop := lineMapsRow.holds Tryd.pinned (OpenSpec.ofChange lineMapsSpec)

/-- ITS FALSE NEIGHBOUR: 'it returns false'. Refute it at one input. -/
def lineMapsWrong : ChangeSpec := { name := "lineMaps", fn := fun _ => fun
  | [d] => { results := [.lit (.bool false)], args := [d] }
  | _ => none }
def LineMapsWrongFalsely : Prop := lineMapsRow.holds Tryd.pinned (OpenSpec.ofChange lineMapsWrong)

/-- 'tithelaw6.LineAll': WHATEVER THE INPUT: true; the input reads as it did. -/
def lineAllSpec : ChangeSpec := { name := "lineAll", fn := fun _ => fun
  | [d1, d2] => { results := [.lit (.bool true)], args := [d1, d2] }
  | _ => none }
def lineAllRow : OpenClaim := { program := "ytjcdlhplflmneaadoor", sum := "d8287364d04bd28f009bb6eb1ce445752a167677a75f1ba7bdd3ba2621aef270", func := "tithe/tithelaw6.LineAll", spec := "lineAll", unfollowed := true, recurses := true, named := ["tithe/api.ErrSpan"], apart := false, laid := [("tithe/api.ErrSpan", laid_tithe_api_ErrSpan)] }
def LineAllSaid : Prop := lineAllRow.holds Tryd.pinned (OpenSpec.ofChange lineAllSpec)

/-- ITS FALSE NEIGHBOUR: 'it returns false'. Refute it at one input. -/
def lineAllWrong : ChangeSpec := { name := "lineAll", fn := fun _ => fun
  | [d1, d2] => { results := [.lit (.bool false)], args := [d1, d2] }
  | _ => none }
def LineAllWrongFalsely : Prop := lineAllRow.holds Tryd.pinned (OpenSpec.ofChange lineAllWrong)

/- THE SECOND FORM. 'bulk': how many values and letters a reading holds, each counted each time it is reached (what is shared counts as often as it is met; a slice's spare places count too). A statement '..UptoSaid' is the law's where the arguments, and the package variables that the reading takes, are together of bulk at most 1048576: NARROWER than '..Said'. Prove '..Said' where nothing that the law and all that it calls make is longer than what came in: it says more and counts as full. Else prove '..UptoSaid'. A law counts once. -/
mutual
def uptoBulk {H : Type} : DataW H → Nat
  | .lit (.string bytes) => bytes.length + 1
  | .lit _ => 1
  | .nil => 1
  | .ptr d => uptoBulk d + 1
  | .slice elems spare => uptoBulkAll elems + uptoBulkAll spare + 1
  | .agg parts => uptoBulkAll parts + 1
  | .iface _ d => uptoBulk d + 1
  | .map entries => uptoBulkEntries entries + 1
  | .held _ => 1
def uptoBulkAll {H : Type} : List (DataW H) → Nat
  | [] => 0
  | d :: r => uptoBulk d + uptoBulkAll r
def uptoBulkEntries {H : Type} : List (Lit × DataW H) → Nat
  | [] => 0
  | x :: r => uptoBulkEntry x + uptoBulkEntries r
def uptoBulkEntry {H : Type} : Lit × DataW H → Nat
  | (.string bytes, d) => bytes.length + uptoBulk d + 1
  | (_, d) => uptoBulk d + 1
 end
def uptoSmall : (H : Type) → List (DataW H) → Bool := fun _ ds => decide (uptoBulkAll ds ≤ 1048576)
def OpenSpec.upto (s : _root_.Go.ChangeSpec) : _root_.Go.OpenSpec := { _root_.Go.OpenSpec.ofChange s with cond := some uptoSmall }

/-- 'tithelaw15.ScaleTops', WHERE WHAT IT READS IS OF BULK AT MOST 1048576: true; the input reads as it did. -/
def scaleTopsUptoRow : OpenClaim := { program := "ytjcdlhplflmneaadoor", sum := "d8287364d04bd28f009bb6eb1ce445752a167677a75f1ba7bdd3ba2621aef270", func := "tithe/tithelaw15.ScaleTops", spec := "scaleTops", unfollowed := true, recurses := true, named := ["tithe/api.ErrNone", "tithe/api.ErrScale", "tithe/api.ErrFrac", "tithe/api.ErrMany", "tithe/api.ErrZero", "tithe/api.ErrRange"], apart := false, laid := [("tithe/api.ErrRange", laid_tithe_api_ErrRange), ("tithe/api.ErrZero", laid_tithe_api_ErrZero), ("tithe/api.ErrFrac", laid_tithe_api_ErrFrac), ("tithe/api.ErrScale", laid_tithe_api_ErrScale), ("tithe/api.ErrMany", laid_tithe_api_ErrMany), ("tithe/api.ErrNone", laid_tithe_api_ErrNone)], narrowed := true }
def ScaleTopsUptoSaid : Prop := scaleTopsUptoRow.holds Tryd.pinned (OpenSpec.upto scaleTopsSpec)

/-- 'tithelaw15.ScaleOwn', WHERE WHAT IT READS IS OF BULK AT MOST 1048576: true; the input reads as it did. -/
def scaleOwnUptoRow : OpenClaim := { program := "ytjcdlhplflmneaadoor", sum := "d8287364d04bd28f009bb6eb1ce445752a167677a75f1ba7bdd3ba2621aef270", func := "tithe/tithelaw15.ScaleOwn", spec := "scaleOwn", unfollowed := true, recurses := true, named := ["tithe/api.ErrNone", "tithe/api.ErrScale", "tithe/api.ErrFrac", "tithe/api.ErrMany", "tithe/api.ErrZero", "tithe/api.ErrRange"], apart := false, laid := [("tithe/api.ErrRange", laid_tithe_api_ErrRange), ("tithe/api.ErrZero", laid_tithe_api_ErrZero), ("tithe/api.ErrFrac", laid_tithe_api_ErrFrac), ("tithe/api.ErrScale", laid_tithe_api_ErrScale), ("tithe/api.ErrMany", laid_tithe_api_ErrMany), ("tithe/api.ErrNone", laid_tithe_api_ErrNone)], narrowed := true }
def ScaleOwnUptoSaid : Prop := scaleOwnUptoRow.holds Tryd.pinned (OpenSpec.upto scaleOwnSpec)

/-- 'tithelaw6.LineMakes', WHERE WHAT IT READS IS OF BULK AT MOST 1048576: true; the input reads as it did. -/
def lineMakesUptoRow : OpenClaim := { program := "ytjcdlhplflmneaadoor", sum := "d8287364d04bd28f009bb6eb1ce445752a167677a75f1ba7bdd3ba2621aef270", func := "tithe/tithelaw6.LineMakes", spec := "lineMakes", unfollowed := true, recurses := true, named := ["tithe/api.ErrSpan"], apart := false, laid := [("tithe/api.ErrSpan", laid_tithe_api_ErrSpan)], narrowed := true }
def LineMakesUptoSaid : Prop := lineMakesUptoRow.holds Tryd.pinned (OpenSpec.upto lineMakesSpec)

/-- 'tithelaw6.LineJoins', WHERE WHAT IT READS IS OF BULK AT MOST 1048576: true; the input reads as it did. -/
def lineJoinsUptoRow : OpenClaim := { program := "ytjcdlhplflmneaadoor", sum := "d8287364d04bd28f009bb6eb1ce445752a167677a75f1ba7bdd3ba2621aef270", func := "tithe/tithelaw6.LineJoins", spec := "lineJoins", unfollowed := true, recurses := true, named := ["tithe/api.ErrSpan"], apart := false, laid := [("tithe/api.ErrSpan", laid_tithe_api_ErrSpan)], narrowed := true }
def LineJoinsUptoSaid : Prop := lineJoinsUptoRow.holds Tryd.pinned (OpenSpec.upto lineJoinsSpec)

/-- 'tithelaw6.LineDays', WHERE WHAT IT READS IS OF BULK AT MOST 1048576: true; the input reads as it did. -/
def lineDaysUptoRow : OpenClaim := { program := "ytjcdlhplflmneaadoor", sum := "d8287364d04bd28f009bb6eb1ce445752a167677a75f1ba7bdd3ba2621aef270", func := "tithe/tithelaw6.LineDays", spec := "lineDays", unfollowed := true, recurses := true, named := ["tithe/api.ErrSpan"], apart := false, laid := [("tithe/api.ErrSpan", laid_tithe_api_ErrSpan)], narrowed := true }
def LineDaysUptoSaid : Prop := lineDaysUptoRow.holds Tryd.pinned (OpenSpec.upto lineDaysSpec)

/-- 'tithelaw6.LineMaps', WHERE WHAT IT READS IS OF BULK AT MOST 1048576: true; the input reads as it did. -/
def lineMapsUptoRow : OpenClaim := { program := "ytjcdlhplflmneaadoor", sum := "d8287364d04bd28f009bb6eb1ce445752a167677a75f1ba7bdd3ba2621aef270", func := "tithe/tithelaw6.LineMaps", spec := "lineMaps", unfollowed := true, recurses := true, named := ["tithe/api.ErrSpan"], apart := false, laid := [("tithe/api.ErrSpan", laid_tithe_api_ErrSpan)], narrowed := true }
def LineMapsUptoSaid : Prop := lineMapsUptoRow.holds Tryd.pinned (OpenSpec.upto lineMapsSpec)

/-- 'tithelaw6.LineAll', WHERE WHAT IT READS IS OF BULK AT MOST 1048576: true; the input reads as it did. -/
def lineAllUptoRow : OpenClaim := { program := "ytjcdlhplflmneaadoor", sum := "d8287364d04bd28f009bb6eb1ce445752a167677a75f1ba7bdd3ba2621aef270", func := "tithe/tithelaw6.LineAll", spec := "lineAll", unfollowed := true, recurses := true, named := ["tithe/api.ErrSpan"], apart := false, laid := [("tithe/api.ErrSpan", laid_tithe_api_ErrSpan)], narrowed := true }
def LineAllUptoSaid : Prop := lineAllUptoRow.holds Tryd.pinned (OpenSpec.upto lineAllSpec)

end Rows
end Go.Proofs.YtjcdlhplflmneaaDoor
