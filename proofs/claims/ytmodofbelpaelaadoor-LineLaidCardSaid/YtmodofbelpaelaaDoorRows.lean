/-
  NARROWER THAN 'FOR EVERY INPUT', by the rows' own cells (each row's printed sentence says how): ScaleTops: laid · ScaleOwn: laid · LineLaid: laid · DayOwn: laid.
  DERIVED. THE GIVEN ROWS OF THIS SEAT. 4 by the template 'for every input the law returns true; each argument reads behind the call as it read before'; 0 by the template 'total and deterministic' (their statements: YtmodofbelpaelaaDoorTotals.lean).
  GIVEN WITH THE SEED: the statements are not yours to turn. If you find one false, say at which input.
  Laid BY PROGRAM, IN A SANDBOX (cutbox-rows.mjs): the forced cells as the released guide's own fill.sh prints them over the translation 273bd902df6f694d… (all of the seat's roots in one cut). By AI agents, Wed Nov 11 2026. No macro, syntax, notation, axiom, sorry.
-/
import Derived.Test.YtmodofbelpaelaaDoorChecked
import GoSem.Claim
import GoSem.ClaimJoined
import GoSem.ClaimMapViews
import Derived.JoinedTies
import Derived.KernelRfl
namespace Go.Proofs.YtmodofbelpaelaaDoor
/- THE CELL 'sum', in the pinned program and in every row, IS THE sha256 OF THE DUMP (.gsa) THAT YtmodofbelpaelaaDoorProg.lean LOADS. Nothing in Lean hashes anything: it is a label: what it is worth is what the hold of that sum in a sandbox is worth. -/
noncomputable def Tryd.pinned : Pinned := { name := "ytmodofbelpaelaadoor", sum := "273bd902df6f694df124b0a007ddd73a540d00e96b2c99fd6dbb2683ab513bdd", checked := Tryd.checked }
namespace Rows
def none {H : Type} : Left H := { results := [], args := [] }

/- WHAT THE LISTED PACKAGE-LEVEL VARIABLES READ AS WHEN THE CALL BEGINS. Each datum BY PROGRAM (the guide's laid-datum.mjs) off the statement by which the dump's own 'gosem.cut.vars' lays the variable. In a bare row this is a premise. The card (YtmodofbelpaelaaDoorCards.lean) ties it to the program's text. -/
def laid_tithe_api_ErrRange {H : Type} : DataW H := .iface "*errors.errorString" (.ptr (.agg [.lit (.string [97, 32, 110, 117, 109, 98, 101, 114, 32, 98, 101, 121, 111, 110, 100, 32, 116, 104, 101, 32, 114, 97, 110, 103, 101])]))
def laid_tithe_api_ErrZero {H : Type} : DataW H := .iface "*errors.errorString" (.ptr (.agg [.lit (.string [100, 105, 118, 105, 100, 101, 100, 32, 98, 121, 32, 122, 101, 114, 111])]))
def laid_tithe_api_ErrFrac {H : Type} : DataW H := .iface "*errors.errorString" (.ptr (.agg [.lit (.string [110, 111, 32, 102, 114, 97, 99, 116, 105, 111, 110])]))
def laid_tithe_api_ErrScale {H : Type} : DataW H := .iface "*errors.errorString" (.ptr (.agg [.lit (.string [110, 111, 32, 115, 99, 97, 108, 101])]))
def laid_tithe_api_ErrMany {H : Type} : DataW H := .iface "*errors.errorString" (.ptr (.agg [.lit (.string [116, 111, 111, 32, 109, 97, 110, 121])]))
def laid_tithe_api_ErrNone {H : Type} : DataW H := .iface "*errors.errorString" (.ptr (.agg [.lit (.string [116, 104, 101, 114, 101, 32, 105, 115, 32, 110, 111, 110, 101])]))
def laid_tithe_api_ErrSpan {H : Type} : DataW H := .iface "*errors.errorString" (.ptr (.agg [.lit (.string [110, 111, 32, 115, 112, 97, 110])]))
def laid_math_bits_deBruijn32tab {H : Type} : DataW H := .agg [.lit (.int .u8 0), .lit (.int .u8 1), .lit (.int .u8 28), .lit (.int .u8 2), .lit (.int .u8 29), .lit (.int .u8 14), .lit (.int .u8 24), .lit (.int .u8 3), .lit (.int .u8 30), .lit (.int .u8 22), .lit (.int .u8 20), .lit (.int .u8 15), .lit (.int .u8 25), .lit (.int .u8 17), .lit (.int .u8 4), .lit (.int .u8 8), .lit (.int .u8 31), .lit (.int .u8 27), .lit (.int .u8 13), .lit (.int .u8 23), .lit (.int .u8 21), .lit (.int .u8 19), .lit (.int .u8 16), .lit (.int .u8 7), .lit (.int .u8 26), .lit (.int .u8 12), .lit (.int .u8 18), .lit (.int .u8 6), .lit (.int .u8 11), .lit (.int .u8 5), .lit (.int .u8 10), .lit (.int .u8 9)]
def laid_math_bits_deBruijn64tab {H : Type} : DataW H := .agg [.lit (.int .u8 0), .lit (.int .u8 1), .lit (.int .u8 56), .lit (.int .u8 2), .lit (.int .u8 57), .lit (.int .u8 49), .lit (.int .u8 28), .lit (.int .u8 3), .lit (.int .u8 61), .lit (.int .u8 58), .lit (.int .u8 42), .lit (.int .u8 50), .lit (.int .u8 38), .lit (.int .u8 29), .lit (.int .u8 17), .lit (.int .u8 4), .lit (.int .u8 62), .lit (.int .u8 47), .lit (.int .u8 59), .lit (.int .u8 36), .lit (.int .u8 45), .lit (.int .u8 43), .lit (.int .u8 51), .lit (.int .u8 22), .lit (.int .u8 53), .lit (.int .u8 39), .lit (.int .u8 33), .lit (.int .u8 30), .lit (.int .u8 24), .lit (.int .u8 18), .lit (.int .u8 12), .lit (.int .u8 5), .lit (.int .u8 63), .lit (.int .u8 55), .lit (.int .u8 48), .lit (.int .u8 27), .lit (.int .u8 60), .lit (.int .u8 41), .lit (.int .u8 37), .lit (.int .u8 16), .lit (.int .u8 46), .lit (.int .u8 35), .lit (.int .u8 44), .lit (.int .u8 21), .lit (.int .u8 52), .lit (.int .u8 32), .lit (.int .u8 23), .lit (.int .u8 11), .lit (.int .u8 54), .lit (.int .u8 26), .lit (.int .u8 40), .lit (.int .u8 15), .lit (.int .u8 34), .lit (.int .u8 20), .lit (.int .u8 31), .lit (.int .u8 10), .lit (.int .u8 25), .lit (.int .u8 14), .lit (.int .u8 19), .lit (.int .u8 9), .lit (.int .u8 13), .lit (.int .u8 8), .lit (.int .u8 7), .lit (.int .u8 6)]
def laid_internal_strconv_uint64pow10 {H : Type} : DataW H := .agg [.lit (.int .u64 1), .lit (.int .u64 10), .lit (.int .u64 100), .lit (.int .u64 1000), .lit (.int .u64 10000), .lit (.int .u64 100000), .lit (.int .u64 1000000), .lit (.int .u64 10000000), .lit (.int .u64 100000000), .lit (.int .u64 1000000000), .lit (.int .u64 10000000000), .lit (.int .u64 100000000000), .lit (.int .u64 1000000000000), .lit (.int .u64 10000000000000), .lit (.int .u64 100000000000000), .lit (.int .u64 1000000000000000), .lit (.int .u64 10000000000000000), .lit (.int .u64 100000000000000000), .lit (.int .u64 1000000000000000000), .lit (.int .u64 10000000000000000000)]
def laid_tithe_api_ErrDay {H : Type} : DataW H := .iface "*errors.errorString" (.ptr (.agg [.lit (.string [110, 111, 32, 100, 97, 121])]))
def laid_tithe_day_months {H : Type} : DataW H := .agg [.lit (.int .i64 31), .lit (.int .i64 28), .lit (.int .i64 31), .lit (.int .i64 30), .lit (.int .i64 31), .lit (.int .i64 30), .lit (.int .i64 31), .lit (.int .i64 31), .lit (.int .i64 30), .lit (.int .i64 31), .lit (.int .i64 30), .lit (.int .i64 31)]

/-- 'tithelaw15.ScaleTops': WHATEVER THE INPUT: true; the input reads as it did. -/
def scaleTopsSpec : ChangeSpec := { name := "scaleTops", fn := fun _ => fun
  | [d1, d2] => { results := [.lit (.bool true)], args := [d1, d2] }
  | _ => none }
def scaleTopsRow : OpenClaim := { program := "ytmodofbelpaelaadoor", sum := "273bd902df6f694df124b0a007ddd73a540d00e96b2c99fd6dbb2683ab513bdd", func := "tithe/tithelaw15.ScaleTops", spec := "scaleTops", unfollowed := true, recurses := true, named := ["tithe/api.ErrNone", "tithe/api.ErrScale", "tithe/api.ErrFrac", "tithe/api.ErrMany", "tithe/api.ErrZero", "tithe/api.ErrRange"], apart := false, laid := [("tithe/api.ErrRange", laid_tithe_api_ErrRange), ("tithe/api.ErrZero", laid_tithe_api_ErrZero), ("tithe/api.ErrFrac", laid_tithe_api_ErrFrac), ("tithe/api.ErrScale", laid_tithe_api_ErrScale), ("tithe/api.ErrMany", laid_tithe_api_ErrMany), ("tithe/api.ErrNone", laid_tithe_api_ErrNone)] }
def ScaleTopsSaid : Prop := scaleTopsRow.holds Tryd.pinned (OpenSpec.ofChange scaleTopsSpec)

/-- ITS FALSE NEIGHBOUR: 'it returns false'. Refute it at one input. -/
def scaleTopsWrong : ChangeSpec := { name := "scaleTops", fn := fun _ => fun
  | [d1, d2] => { results := [.lit (.bool false)], args := [d1, d2] }
  | _ => none }
def ScaleTopsWrongFalsely : Prop := scaleTopsRow.holds Tryd.pinned (OpenSpec.ofChange scaleTopsWrong)

/-- 'tithelaw15.ScaleOwn': WHATEVER THE INPUT: true; the input reads as it did. -/
def scaleOwnSpec : ChangeSpec := { name := "scaleOwn", fn := fun _ => fun
  | [d1, d2, d3, d4] => { results := [.lit (.bool true)], args := [d1, d2, d3, d4] }
  | _ => none }
def scaleOwnRow : OpenClaim := { program := "ytmodofbelpaelaadoor", sum := "273bd902df6f694df124b0a007ddd73a540d00e96b2c99fd6dbb2683ab513bdd", func := "tithe/tithelaw15.ScaleOwn", spec := "scaleOwn", unfollowed := true, recurses := true, named := ["tithe/api.ErrNone", "tithe/api.ErrScale", "tithe/api.ErrFrac", "tithe/api.ErrMany", "tithe/api.ErrZero", "tithe/api.ErrRange"], apart := false, laid := [("tithe/api.ErrRange", laid_tithe_api_ErrRange), ("tithe/api.ErrZero", laid_tithe_api_ErrZero), ("tithe/api.ErrFrac", laid_tithe_api_ErrFrac), ("tithe/api.ErrScale", laid_tithe_api_ErrScale), ("tithe/api.ErrMany", laid_tithe_api_ErrMany), ("tithe/api.ErrNone", laid_tithe_api_ErrNone)] }
def ScaleOwnSaid : Prop := scaleOwnRow.holds Tryd.pinned (OpenSpec.ofChange scaleOwnSpec)

/-- ITS FALSE NEIGHBOUR: 'it returns false'. Refute it at one input. -/
def scaleOwnWrong : ChangeSpec := { name := "scaleOwn", fn := fun _ => fun
  | [d1, d2, d3, d4] => { results := [.lit (.bool false)], args := [d1, d2, d3, d4] }
  | _ => none }
def ScaleOwnWrongFalsely : Prop := scaleOwnRow.holds Tryd.pinned (OpenSpec.ofChange scaleOwnWrong)

/-- 'tithelaw6.LineLaid': WHATEVER THE INPUT: true; the input reads as it did. -/
def lineLaidSpec : ChangeSpec := { name := "lineLaid", fn := fun _ => fun
  | [d1, d2, d3] => { results := [.lit (.bool true)], args := [d1, d2, d3] }
  | _ => none }
def lineLaidRow : OpenClaim := { program := "ytmodofbelpaelaadoor", sum := "273bd902df6f694df124b0a007ddd73a540d00e96b2c99fd6dbb2683ab513bdd", func := "tithe/tithelaw6.LineLaid", spec := "lineLaid", unfollowed := true, recurses := true, named := ["tithe/api.ErrSpan"], apart := false, laid := [("tithe/api.ErrSpan", laid_tithe_api_ErrSpan)] }
def LineLaidSaid : Prop := lineLaidRow.holds Tryd.pinned (OpenSpec.ofChange lineLaidSpec)

/-- ITS FALSE NEIGHBOUR: 'it returns false'. Refute it at one input. -/
def lineLaidWrong : ChangeSpec := { name := "lineLaid", fn := fun _ => fun
  | [d1, d2, d3] => { results := [.lit (.bool false)], args := [d1, d2, d3] }
  | _ => none }
def LineLaidWrongFalsely : Prop := lineLaidRow.holds Tryd.pinned (OpenSpec.ofChange lineLaidWrong)

/-- 'tithelaw3.DayOwn': WHATEVER THE INPUT: true; the input reads as it did. -/
def dayOwnSpec : ChangeSpec := { name := "dayOwn", fn := fun _ => fun
  | [d1, d2] => { results := [.lit (.bool true)], args := [d1, d2] }
  | _ => none }
def dayOwnRow : OpenClaim := { program := "ytmodofbelpaelaadoor", sum := "273bd902df6f694df124b0a007ddd73a540d00e96b2c99fd6dbb2683ab513bdd", func := "tithe/tithelaw3.DayOwn", spec := "dayOwn", unfollowed := true, recurses := true, named := ["tithe/api.ErrDay", "tithe/day.months", "internal/strconv.uint64pow10", "math/bits.deBruijn32tab", "math/bits.deBruijn64tab", "tithe/api.ErrSpan"], apart := false, laid := [("math/bits.deBruijn32tab", laid_math_bits_deBruijn32tab), ("math/bits.deBruijn64tab", laid_math_bits_deBruijn64tab), ("internal/strconv.uint64pow10", laid_internal_strconv_uint64pow10), ("tithe/api.ErrDay", laid_tithe_api_ErrDay), ("tithe/api.ErrSpan", laid_tithe_api_ErrSpan), ("tithe/day.months", laid_tithe_day_months)] }
def DayOwnSaid : Prop := dayOwnRow.holds Tryd.pinned (OpenSpec.ofChange dayOwnSpec)

/-- ITS FALSE NEIGHBOUR: 'it returns false'. Refute it at one input. -/
def dayOwnWrong : ChangeSpec := { name := "dayOwn", fn := fun _ => fun
  | [d1, d2] => { results := [.lit (.bool false)], args := [d1, d2] }
  | _ => none }
def DayOwnWrongFalsely : Prop := dayOwnRow.holds Tryd.pinned (OpenSpec.ofChange dayOwnWrong)

/- THE SECOND FORM. 'bulk': how many values and letters a reading holds, each counted each time it is reached (what is shared counts as often as it is met; a slice's spare places count too). A statement '..UptoSaid' is the law's where the arguments, and the package variables that the reading takes, are together of bulk at most 1048576: NARROWER than '..Said'. Prove '..Said' where nothing that the law and all that it calls make is longer than what came in: it says more and counts as full. Else prove '..UptoSaid'. A law counts once. -/
mutual
def uptoBulk {H : Type} : DataW H → Nat
  | .lit (.string bytes) => bytes.length + 1
  | .lit _ => 1
  | .nil => 1
  | .ptr d => uptoBulk d + 1
  | .slice elems spare => uptoBulkAll elems + uptoBulkAll spare + 1
  | .agg parts => uptoBulkAll parts + 1
  | .iface _ d => uptoBulk d + 1
  | .map entries => uptoBulkEntries entries + 1
  | .held _ => 1
def uptoBulkAll {H : Type} : List (DataW H) → Nat
  | [] => 0
  | d :: r => uptoBulk d + uptoBulkAll r
def uptoBulkEntries {H : Type} : List (Lit × DataW H) → Nat
  | [] => 0
  | x :: r => uptoBulkEntry x + uptoBulkEntries r
def uptoBulkEntry {H : Type} : Lit × DataW H → Nat
  | (.string bytes, d) => bytes.length + uptoBulk d + 1
  | (_, d) => uptoBulk d + 1
 end
def uptoSmall : (H : Type) → List (DataW H) → Bool := fun _ ds => decide (uptoBulkAll ds ≤ 1048576)
def OpenSpec.upto (s : _root_.Go.ChangeSpec) : _root_.Go.OpenSpec := { _root_.Go.OpenSpec.ofChange s with cond := some uptoSmall }

/-- 'tithelaw15.ScaleTops', WHERE WHAT IT READS IS OF BULK AT MOST 1048576: true; the input reads as it did. -/
def scaleTopsUptoRow : OpenClaim := { program := "ytmodofbelpaelaadoor", sum := "273bd902df6f694df124b0a007ddd73a540d00e96b2c99fd6dbb2683ab513bdd", func := "tithe/tithelaw15.ScaleTops", spec := "scaleTops", unfollowed := true, recurses := true, named := ["tithe/api.ErrNone", "tithe/api.ErrScale", "tithe/api.ErrFrac", "tithe/api.ErrMany", "tithe/api.ErrZero", "tithe/api.ErrRange"], apart := false, laid := [("tithe/api.ErrRange", laid_tithe_api_ErrRange), ("tithe/api.ErrZero", laid_tithe_api_ErrZero), ("tithe/api.ErrFrac", laid_tithe_api_ErrFrac), ("tithe/api.ErrScale", laid_tithe_api_ErrScale), ("tithe/api.ErrMany", laid_tithe_api_ErrMany), ("tithe/api.ErrNone", laid_tithe_api_ErrNone)], narrowed := true }
def ScaleTopsUptoSaid : Prop := scaleTopsUptoRow.holds Tryd.pinned (OpenSpec.upto scaleTopsSpec)

/-- 'tithelaw15.ScaleOwn', WHERE WHAT IT READS IS OF BULK AT MOST 1048576: true; the input reads as it did. -/
def scaleOwnUptoRow : OpenClaim := { program := "ytmodofbelpaelaadoor", sum := "273bd902df6f694df124b0a007ddd73a540d00e96b2c99fd6dbb2683ab513bdd", func := "tithe/tithelaw15.ScaleOwn", spec := "scaleOwn", unfollowed := true, recurses := true, named := ["tithe/api.ErrNone", "tithe/api.ErrScale", "tithe/api.ErrFrac", "tithe/api.ErrMany", "tithe/api.ErrZero", "tithe/api.ErrRange"], apart := false, laid := [("tithe/api.ErrRange", laid_tithe_api_ErrRange), ("tithe/api.ErrZero", laid_tithe_api_ErrZero), ("tithe/api.ErrFrac", laid_tithe_api_ErrFrac), ("tithe/api.ErrScale", laid_tithe_api_ErrScale), ("tithe/api.ErrMany", laid_tithe_api_ErrMany), ("tithe/api.ErrNone", laid_tithe_api_ErrNone)], narrowed := true }
def ScaleOwnUptoSaid : Prop := scaleOwnUptoRow.holds Tryd.pinned (OpenSpec.upto scaleOwnSpec)

/-- 'tithelaw6.LineLaid', WHERE WHAT IT READS IS OF BULK AT MOST 1048576: true; the input reads as it did. -/
def lineLaidUptoRow : OpenClaim := { program := "ytmodofbelpaelaadoor", sum := "273bd902df6f694df124b0a007ddd73a540d00e96b2c99fd6dbb2683ab513bdd", func := "tithe/tithelaw6.LineLaid", spec := "lineLaid", unfollowed := true, recurses := true, named := ["tithe/api.ErrSpan"], apart := false, laid := [("tithe/api.ErrSpan", laid_tithe_api_ErrSpan)], narrowed := true }
def LineLaidUptoSaid : Prop := lineLaidUptoRow.holds Tryd.pinned (OpenSpec.upto lineLaidSpec)

/-- 'tithelaw3.DayOwn', WHERE WHAT IT READS IS OF BULK AT MOST 1048576: true; the input reads as it did. -/
def dayOwnUptoRow : OpenClaim := { program := "ytmodofbelpaelaadoor", sum := "273bd902df6f694df124b0a007ddd73a540d00e96b2c99fd6dbb2683ab513bdd", func := "tithe/tithelaw3.DayOwn", spec := "dayOwn", unfollowed := true, recurses := true, named := ["tithe/api.ErrDay", "tithe/day.months", "internal/strconv.uint64pow10", "math/bits.deBruijn32tab", "math/bits.deBruijn64tab", "tithe/api.ErrSpan"], apart := false, laid := [("math/bits.deBruijn32tab", laid_math_bits_deBruijn32tab), ("math/bits.deBruijn64tab", laid_math_bits_deBruijn64tab), ("internal/strconv.uint64pow10", laid_internal_strconv_uint64pow10), ("tithe/api.ErrDay", laid_tithe_api_ErrDay), ("tithe/api.ErrSpan", laid_tithe_api_ErrSpan), ("tithe/day.months", laid_tithe_day_months)], narrowed := true }
def DayOwnUptoSaid : Prop := dayOwnUptoRow.holds Tryd.pinned (OpenSpec.upto dayOwnSpec)

end Rows
end Go.Proofs.YtmodofbelpaelaaDoor
