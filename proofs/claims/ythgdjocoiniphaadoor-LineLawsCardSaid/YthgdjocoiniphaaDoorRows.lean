/-
  NARROWER THAN 'FOR EVERY INPUT', by the rows' own cells (each row's printed sentence says how): ScaleTops: laid · ScaleOwn: laid · LineAll: laid · LineLaws: laid · LineLaid: laid · DayYears: laid · DayEach: laid · DayOwn: laid · DayNext: laid · DayByDay: laid · DayZero: laid.
  DERIVED. THE GIVEN ROWS OF THIS SEAT. 11 by the template 'for every input the law returns true; each argument reads behind the call as it read before'; 0 by the template 'total and deterministic' (their statements: YthgdjocoiniphaaDoorTotals.lean).
  GIVEN WITH THE SEED: the statements are not yours to turn. If you find one false, say at which input.
  Laid BY PROGRAM, IN A SANDBOX (cutbox-rows.mjs): the forced cells as the released guide's own fill.sh prints them over the translation e64695670719daf1… (all of the seat's roots in one cut). By AI agents, Wed Nov 11 2026. No macro, syntax, notation, axiom, sorry.
-/
import Derived.Test.YthgdjocoiniphaaDoorChecked
import GoSem.Claim
import GoSem.ClaimJoined
import GoSem.ClaimMapViews
import Derived.JoinedTies
import Derived.KernelRfl
namespace Go.Proofs.YthgdjocoiniphaaDoor
/- THE CELL 'sum', in the pinned program and in every row, IS THE sha256 OF THE DUMP (.gsa) THAT YthgdjocoiniphaaDoorProg.lean LOADS. Nothing in Lean hashes anything: it is a label: what it is worth is what the hold of that sum in a sandbox is worth. -/
noncomputable def Tryd.pinned : Pinned := { name := "ythgdjocoiniphaadoor", sum := "e64695670719daf1455de2552b65bf8bee1ce1f7f9d8c448b59e28e7f57d5c74", checked := Tryd.checked }
namespace Rows
def none {H : Type} : Left H := { results := [], args := [] }

/- WHAT THE LISTED PACKAGE-LEVEL VARIABLES READ AS WHEN THE CALL BEGINS. Each datum BY PROGRAM (the guide's laid-datum.mjs) off the statement by which the dump's own 'gosem.cut.vars' lays the variable. In a bare row this is a premise. The card (YthgdjocoiniphaaDoorCards.lean) ties it to the program's text. -/
def laid_tithe_api_ErrRange {H : Type} : DataW H := .iface "*errors.errorString" (.ptr (.agg [.lit (.string [97, 32, 110, 117, 109, 98, 101, 114, 32, 98, 101, 121, 111, 110, 100, 32, 116, 104, 101, 32, 114, 97, 110, 103, 101])]))
def laid_tithe_api_ErrZero {H : Type} : DataW H := .iface "*errors.errorString" (.ptr (.agg [.lit (.string [100, 105, 118, 105, 100, 101, 100, 32, 98, 121, 32, 122, 101, 114, 111])]))
def laid_tithe_api_ErrFrac {H : Type} : DataW H := .iface "*errors.errorString" (.ptr (.agg [.lit (.string [110, 111, 32, 102, 114, 97, 99, 116, 105, 111, 110])]))
def laid_tithe_api_ErrScale {H : Type} : DataW H := .iface "*errors.errorString" (.ptr (.agg [.lit (.string [110, 111, 32, 115, 99, 97, 108, 101])]))
def laid_tithe_api_ErrMany {H : Type} : DataW H := .iface "*errors.errorString" (.ptr (.agg [.lit (.string [116, 111, 111, 32, 109, 97, 110, 121])]))
def laid_tithe_api_ErrNone {H : Type} : DataW H := .iface "*errors.errorString" (.ptr (.agg [.lit (.string [116, 104, 101, 114, 101, 32, 105, 115, 32, 110, 111, 110, 101])]))
def laid_tithe_api_ErrSpan {H : Type} : DataW H := .iface "*errors.errorString" (.ptr (.agg [.lit (.string [110, 111, 32, 115, 112, 97, 110])]))
def laid_math_bits_deBruijn32tab {H : Type} : DataW H := .agg [.lit (.int .u8 0), .lit (.int .u8 1), .lit (.int .u8 28), .lit (.int .u8 2), .lit (.int .u8 29), .lit (.int .u8 14), .lit (.int .u8 24), .lit (.int .u8 3), .lit (.int .u8 30), .lit (.int .u8 22), .lit (.int .u8 20), .lit (.int .u8 15), .lit (.int .u8 25), .lit (.int .u8 17), .lit (.int .u8 4), .lit (.int .u8 8), .lit (.int .u8 31), .lit (.int .u8 27), .lit (.int .u8 13), .lit (.int .u8 23), .lit (.int .u8 21), .lit (.int .u8 19), .lit (.int .u8 16), .lit (.int .u8 7), .lit (.int .u8 26), .lit (.int .u8 12), .lit (.int .u8 18), .lit (.int .u8 6), .lit (.int .u8 11), .lit (.int .u8 5), .lit (.int .u8 10), .lit (.int .u8 9)]
def laid_math_bits_deBruijn64tab {H : Type} : DataW H := .agg [.lit (.int .u8 0), .lit (.int .u8 1), .lit (.int .u8 56), .lit (.int .u8 2), .lit (.int .u8 57), .lit (.int .u8 49), .lit (.int .u8 28), .lit (.int .u8 3), .lit (.int .u8 61), .lit (.int .u8 58), .lit (.int .u8 42), .lit (.int .u8 50), .lit (.int .u8 38), .lit (.int .u8 29), .lit (.int .u8 17), .lit (.int .u8 4), .lit (.int .u8 62), .lit (.int .u8 47), .lit (.int .u8 59), .lit (.int .u8 36), .lit (.int .u8 45), .lit (.int .u8 43), .lit (.int .u8 51), .lit (.int .u8 22), .lit (.int .u8 53), .lit (.int .u8 39), .lit (.int .u8 33), .lit (.int .u8 30), .lit (.int .u8 24), .lit (.int .u8 18), .lit (.int .u8 12), .lit (.int .u8 5), .lit (.int .u8 63), .lit (.int .u8 55), .lit (.int .u8 48), .lit (.int .u8 27), .lit (.int .u8 60), .lit (.int .u8 41), .lit (.int .u8 37), .lit (.int .u8 16), .lit (.int .u8 46), .lit (.int .u8 35), .lit (.int .u8 44), .lit (.int .u8 21), .lit (.int .u8 52), .lit (.int .u8 32), .lit (.int .u8 23), .lit (.int .u8 11), .lit (.int .u8 54), .lit (.int .u8 26), .lit (.int .u8 40), .lit (.int .u8 15), .lit (.int .u8 34), .lit (.int .u8 20), .lit (.int .u8 31), .lit (.int .u8 10), .lit (.int .u8 25), .lit (.int .u8 14), .lit (.int .u8 19), .lit (.int .u8 9), .lit (.int .u8 13), .lit (.int .u8 8), .lit (.int .u8 7), .lit (.int .u8 6)]
def laid_internal_strconv_uint64pow10 {H : Type} : DataW H := .agg [.lit (.int .u64 1), .lit (.int .u64 10), .lit (.int .u64 100), .lit (.int .u64 1000), .lit (.int .u64 10000), .lit (.int .u64 100000), .lit (.int .u64 1000000), .lit (.int .u64 10000000), .lit (.int .u64 100000000), .lit (.int .u64 1000000000), .lit (.int .u64 10000000000), .lit (.int .u64 100000000000), .lit (.int .u64 1000000000000), .lit (.int .u64 10000000000000), .lit (.int .u64 100000000000000), .lit (.int .u64 1000000000000000), .lit (.int .u64 10000000000000000), .lit (.int .u64 100000000000000000), .lit (.int .u64 1000000000000000000), .lit (.int .u64 10000000000000000000)]
def laid_tithe_api_ErrDay {H : Type} : DataW H := .iface "*errors.errorString" (.ptr (.agg [.lit (.string [110, 111, 32, 100, 97, 121])]))
def laid_tithe_day_months {H : Type} : DataW H := .agg [.lit (.int .i64 31), .lit (.int .i64 28), .lit (.int .i64 31), .lit (.int .i64 30), .lit (.int .i64 31), .lit (.int .i64 30), .lit (.int .i64 31), .lit (.int .i64 31), .lit (.int .i64 30), .lit (.int .i64 31), .lit (.int .i64 30), .lit (.int .i64 31)]
def laid_tithe_api_ErrText {H : Type} : DataW H := .iface "*errors.errorString" (.ptr (.agg [.lit (.string [110, 111, 32, 115, 117, 99, 104, 32, 116, 101, 120, 116])]))

/-- 'tithelaw15.ScaleTops': WHATEVER THE INPUT: true; the input reads as it did. -/
def scaleTopsSpec : ChangeSpec := { name := "scaleTops", fn := fun _ => fun
  | [d1, d2] => { results := [.lit (.bool true)], args := [d1, d2] }
  | _ => none }
def scaleTopsRow : OpenClaim := { program := "ythgdjocoiniphaadoor", sum := "e64695670719daf1455de2552b65bf8bee1ce1f7f9d8c448b59e28e7f57d5c74", func := "tithe/tithelaw15.ScaleTops", spec := "scaleTops", unfollowed := true, recurses := true, named := ["tithe/api.ErrNone", "tithe/api.ErrScale", "tithe/api.ErrFrac", "tithe/api.ErrMany", "tithe/api.ErrZero", "tithe/api.ErrRange"], apart := false, laid := [("tithe/api.ErrRange", laid_tithe_api_ErrRange), ("tithe/api.ErrZero", laid_tithe_api_ErrZero), ("tithe/api.ErrFrac", laid_tithe_api_ErrFrac), ("tithe/api.ErrScale", laid_tithe_api_ErrScale), ("tithe/api.ErrMany", laid_tithe_api_ErrMany), ("tithe/api.ErrNone", laid_tithe_api_ErrNone)] }
def ScaleTopsSaid : Prop := scaleTopsRow.holds Tryd.pinned (OpenSpec.ofChange scaleTopsSpec)

/-- ITS FALSE NEIGHBOUR: 'it returns false'. Refute it at one input. -/
def scaleTopsWrong : ChangeSpec := { name := "scaleTops", fn := fun _ => fun
  | [d1, d2] => { results := [.lit (.bool false)], args := [d1, d2] }
  | _ => none }
def ScaleTopsWrongFalsely : Prop := scaleTopsRow.holds Tryd.pinned (OpenSpec.ofChange scaleTopsWrong)

/-- 'tithelaw15.ScaleOwn': WHATEVER THE INPUT: true; the input reads as it did. -/
def scaleOwnSpec : ChangeSpec := { name := "scaleOwn", fn := fun _ => fun
  | [d1, d2, d3, d4] => { results := [.lit (.bool true)], args := [d1, d2, d3, d4] }
  | _ => none }
def scaleOwnRow : OpenClaim := { program := "ythgdjocoiniphaadoor", sum := "e64695670719daf1455de2552b65bf8bee1ce1f7f9d8c448b59e28e7f57d5c74", func := "tithe/tithelaw15.ScaleOwn", spec := "scaleOwn", unfollowed := true, recurses := true, named := ["tithe/api.ErrNone", "tithe/api.ErrScale", "tithe/api.ErrFrac", "tithe/api.ErrMany", "tithe/api.ErrZero", "tithe/api.ErrRange"], apart := false, laid := [("tithe/api.ErrRange", laid_tithe_api_ErrRange), ("tithe/api.ErrZero", laid_tithe_api_ErrZero), ("tithe/api.ErrFrac", laid_tithe_api_ErrFrac), ("tithe/api.ErrScale", laid_tithe_api_ErrScale), ("tithe/api.ErrMany", laid_tithe_api_ErrMany), ("tithe/api.ErrNone", laid_tithe_api_ErrNone)] }
def ScaleOwnSaid : Prop := scaleOwnRow.holds Tryd.pinned (OpenSpec.ofChange scaleOwnSpec)

/-- ITS FALSE NEIGHBOUR: 'it returns false'. Refute it at one input. -/
def scaleOwnWrong : ChangeSpec := { name := "scaleOwn", fn := fun _ => fun
  | [d1, d2, d3, d4] => { results := [.lit (.bool false)], args := [d1, d2, d3, d4] }
  | _ => none }
def ScaleOwnWrongFalsely : Prop := scaleOwnRow.holds Tryd.pinned (OpenSpec.ofChange scaleOwnWrong)

/-- 'tithelaw6.LineAll': WHATEVER THE INPUT: true; the input reads as it did. -/
def lineAllSpec : ChangeSpec := { name := "lineAll", fn := fun _ => fun
  | [d1, d2] => { results := [.lit (.bool true)], args := [d1, d2] }
  | _ => none }
def lineAllRow : OpenClaim := { program := "ythgdjocoiniphaadoor", sum := "e64695670719daf1455de2552b65bf8bee1ce1f7f9d8c448b59e28e7f57d5c74", func := "tithe/tithelaw6.LineAll", spec := "lineAll", unfollowed := true, recurses := true, named := ["tithe/api.ErrSpan"], apart := false, laid := [("tithe/api.ErrSpan", laid_tithe_api_ErrSpan)] }
def LineAllSaid : Prop := lineAllRow.holds Tryd.pinned (OpenSpec.ofChange lineAllSpec)

/-- ITS FALSE NEIGHBOUR: 'it returns false'. Refute it at one input. -/
def lineAllWrong : ChangeSpec := { name := "lineAll", fn := fun _ => fun
  | [d1, d2] => { results := [.lit (.bool false)], args := [d1, d2] }
  | _ => none }
def LineAllWrongFalsely : Prop := lineAllRow.holds Tryd.pinned (OpenSpec.ofChange lineAllWrong)

/-- 'tithelaw6.LineLaws': WHATEVER THE INPUT: true; the input reads as it did. -/
def lineLawsSpec : ChangeSpec := { name := "lineLaws", fn := fun _ => fun
  | [d1, d2, d3, d4] => { results := [.lit (.bool true)], args := [d1, d2, d3, d4] }
  | _ => none }
def lineLawsRow : OpenClaim := { program := "ythgdjocoiniphaadoor", sum := "e64695670719daf1455de2552b65bf8bee1ce1f7f9d8c448b59e28e7f57d5c74", func := "tithe/tithelaw6.LineLaws", spec := "lineLaws", unfollowed := true, recurses := true, named := ["tithe/api.ErrSpan"], apart := false, laid := [("tithe/api.ErrSpan", laid_tithe_api_ErrSpan)] }
def LineLawsSaid : Prop := lineLawsRow.holds Tryd.pinned (OpenSpec.ofChange lineLawsSpec)

/-- ITS FALSE NEIGHBOUR: 'it returns false'. Refute it at one input. -/
def lineLawsWrong : ChangeSpec := { name := "lineLaws", fn := fun _ => fun
  | [d1, d2, d3, d4] => { results := [.lit (.bool false)], args := [d1, d2, d3, d4] }
  | _ => none }
def LineLawsWrongFalsely : Prop := lineLawsRow.holds Tryd.pinned (OpenSpec.ofChange lineLawsWrong)

/-- 'tithelaw6.LineLaid': WHATEVER THE INPUT: true; the input reads as it did. -/
def lineLaidSpec : ChangeSpec := { name := "lineLaid", fn := fun _ => fun
  | [d1, d2, d3] => { results := [.lit (.bool true)], args := [d1, d2, d3] }
  | _ => none }
def lineLaidRow : OpenClaim := { program := "ythgdjocoiniphaadoor", sum := "e64695670719daf1455de2552b65bf8bee1ce1f7f9d8c448b59e28e7f57d5c74", func := "tithe/tithelaw6.LineLaid", spec := "lineLaid", unfollowed := true, recurses := true, named := ["tithe/api.ErrSpan"], apart := false, laid := [("tithe/api.ErrSpan", laid_tithe_api_ErrSpan)] }
def LineLaidSaid : Prop := lineLaidRow.holds Tryd.pinned (OpenSpec.ofChange lineLaidSpec)

/-- ITS FALSE NEIGHBOUR: 'it returns false'. Refute it at one input. -/
def lineLaidWrong : ChangeSpec := { name := "lineLaid", fn := fun _ => fun
  | [d1, d2, d3] => { results := [.lit (.bool false)], args := [d1, d2, d3] }
  | _ => none }
def LineLaidWrongFalsely : Prop := lineLaidRow.holds Tryd.pinned (OpenSpec.ofChange lineLaidWrong)

/-- 'tithelaw3.DayYears': WHATEVER THE INPUT: true; the input reads as it did. -/
def dayYearsSpec : ChangeSpec := { name := "dayYears", fn := fun _ => fun
  | [d] => { results := [.lit (.bool true)], args := [d] }
  | _ => none }
def dayYearsRow : OpenClaim := { program := "ythgdjocoiniphaadoor", sum := "e64695670719daf1455de2552b65bf8bee1ce1f7f9d8c448b59e28e7f57d5c74", func := "tithe/tithelaw3.DayYears", spec := "dayYears", unfollowed := true, recurses := true, named := ["tithe/api.ErrDay", "tithe/day.months", "internal/strconv.uint64pow10", "math/bits.deBruijn32tab", "math/bits.deBruijn64tab", "tithe/api.ErrSpan"], apart := false, laid := [("math/bits.deBruijn32tab", laid_math_bits_deBruijn32tab), ("math/bits.deBruijn64tab", laid_math_bits_deBruijn64tab), ("internal/strconv.uint64pow10", laid_internal_strconv_uint64pow10), ("tithe/api.ErrDay", laid_tithe_api_ErrDay), ("tithe/api.ErrSpan", laid_tithe_api_ErrSpan), ("tithe/day.months", laid_tithe_day_months)] }
def DayYearsSaid : Prop := dayYearsRow.holds Tryd.pinned (OpenSpec.ofChange dayYearsSpec)

/-- ITS FALSE NEIGHBOUR: 'it returns false'. Refute it at one input. -/
def dayYearsWrong : ChangeSpec := { name := "dayYears", fn := fun _ => fun
  | [d] => { results := [.lit (.bool false)], args := [d] }
  | _ => none }
def DayYearsWrongFalsely : Prop := dayYearsRow.holds Tryd.pinned (OpenSpec.ofChange dayYearsWrong)

/-- 'tithelaw3.DayEach': WHATEVER THE INPUT: true; the input reads as it did. -/
def dayEachSpec : ChangeSpec := { name := "dayEach", fn := fun _ => fun
  | [d1, d2] => { results := [.lit (.bool true)], args := [d1, d2] }
  | _ => none }
def dayEachRow : OpenClaim := { program := "ythgdjocoiniphaadoor", sum := "e64695670719daf1455de2552b65bf8bee1ce1f7f9d8c448b59e28e7f57d5c74", func := "tithe/tithelaw3.DayEach", spec := "dayEach", unfollowed := true, recurses := true, named := ["tithe/api.ErrDay", "tithe/day.months", "internal/strconv.uint64pow10", "math/bits.deBruijn32tab", "math/bits.deBruijn64tab", "tithe/api.ErrSpan"], apart := false, laid := [("math/bits.deBruijn32tab", laid_math_bits_deBruijn32tab), ("math/bits.deBruijn64tab", laid_math_bits_deBruijn64tab), ("internal/strconv.uint64pow10", laid_internal_strconv_uint64pow10), ("tithe/api.ErrDay", laid_tithe_api_ErrDay), ("tithe/api.ErrSpan", laid_tithe_api_ErrSpan), ("tithe/day.months", laid_tithe_day_months)] }
def DayEachSaid : Prop := dayEachRow.holds Tryd.pinned (OpenSpec.ofChange dayEachSpec)

/-- ITS FALSE NEIGHBOUR: 'it returns false'. Refute it at one input. -/
def dayEachWrong : ChangeSpec := { name := "dayEach", fn := fun _ => fun
  | [d1, d2] => { results := [.lit (.bool false)], args := [d1, d2] }
  | _ => none }
def DayEachWrongFalsely : Prop := dayEachRow.holds Tryd.pinned (OpenSpec.ofChange dayEachWrong)

/-- 'tithelaw3.DayOwn': WHATEVER THE INPUT: true; the input reads as it did. -/
def dayOwnSpec : ChangeSpec := { name := "dayOwn", fn := fun _ => fun
  | [d1, d2] => { results := [.lit (.bool true)], args := [d1, d2] }
  | _ => none }
def dayOwnRow : OpenClaim := { program := "ythgdjocoiniphaadoor", sum := "e64695670719daf1455de2552b65bf8bee1ce1f7f9d8c448b59e28e7f57d5c74", func := "tithe/tithelaw3.DayOwn", spec := "dayOwn", unfollowed := true, recurses := true, named := ["tithe/api.ErrDay", "tithe/day.months", "internal/strconv.uint64pow10", "math/bits.deBruijn32tab", "math/bits.deBruijn64tab", "tithe/api.ErrSpan"], apart := false, laid := [("math/bits.deBruijn32tab", laid_math_bits_deBruijn32tab), ("math/bits.deBruijn64tab", laid_math_bits_deBruijn64tab), ("internal/strconv.uint64pow10", laid_internal_strconv_uint64pow10), ("tithe/api.ErrDay", laid_tithe_api_ErrDay), ("tithe/api.ErrSpan", laid_tithe_api_ErrSpan), ("tithe/day.months", laid_tithe_day_months)] }
def DayOwnSaid : Prop := dayOwnRow.holds Tryd.pinned (OpenSpec.ofChange dayOwnSpec)

/-- ITS FALSE NEIGHBOUR: 'it returns false'. Refute it at one input. -/
def dayOwnWrong : ChangeSpec := { name := "dayOwn", fn := fun _ => fun
  | [d1, d2] => { results := [.lit (.bool false)], args := [d1, d2] }
  | _ => none }
def DayOwnWrongFalsely : Prop := dayOwnRow.holds Tryd.pinned (OpenSpec.ofChange dayOwnWrong)

/-- 'tithelaw3.DayNext': WHATEVER THE INPUT: true; the input reads as it did. -/
def dayNextSpec : ChangeSpec := { name := "dayNext", fn := fun _ => fun
  | [d] => { results := [.lit (.bool true)], args := [d] }
  | _ => none }
def dayNextRow : OpenClaim := { program := "ythgdjocoiniphaadoor", sum := "e64695670719daf1455de2552b65bf8bee1ce1f7f9d8c448b59e28e7f57d5c74", func := "tithe/tithelaw3.DayNext", spec := "dayNext", unfollowed := true, recurses := true, named := ["tithe/api.ErrDay", "tithe/day.months", "internal/strconv.uint64pow10", "math/bits.deBruijn32tab", "math/bits.deBruijn64tab", "tithe/api.ErrSpan", "tithe/api.ErrText"], apart := false, laid := [("math/bits.deBruijn32tab", laid_math_bits_deBruijn32tab), ("math/bits.deBruijn64tab", laid_math_bits_deBruijn64tab), ("internal/strconv.uint64pow10", laid_internal_strconv_uint64pow10), ("tithe/api.ErrDay", laid_tithe_api_ErrDay), ("tithe/api.ErrSpan", laid_tithe_api_ErrSpan), ("tithe/api.ErrText", laid_tithe_api_ErrText), ("tithe/day.months", laid_tithe_day_months)] }
def DayNextSaid : Prop := dayNextRow.holds Tryd.pinned (OpenSpec.ofChange dayNextSpec)

/-- ITS FALSE NEIGHBOUR: 'it returns false'. Refute it at one input. -/
def dayNextWrong : ChangeSpec := { name := "dayNext", fn := fun _ => fun
  | [d] => { results := [.lit (.bool false)], args := [d] }
  | _ => none }
def DayNextWrongFalsely : Prop := dayNextRow.holds Tryd.pinned (OpenSpec.ofChange dayNextWrong)

/-- 'tithelaw3.DayByDay': WHATEVER THE INPUT: true; the input reads as it did. -/
def dayByDaySpec : ChangeSpec := { name := "dayByDay", fn := fun _ => fun
  | [d1, d2, d3] => { results := [.lit (.bool true)], args := [d1, d2, d3] }
  | _ => none }
def dayByDayRow : OpenClaim := { program := "ythgdjocoiniphaadoor", sum := "e64695670719daf1455de2552b65bf8bee1ce1f7f9d8c448b59e28e7f57d5c74", func := "tithe/tithelaw3.DayByDay", spec := "dayByDay", unfollowed := true, recurses := true, named := ["tithe/api.ErrDay", "tithe/day.months", "internal/strconv.uint64pow10", "math/bits.deBruijn32tab", "math/bits.deBruijn64tab", "tithe/api.ErrSpan"], apart := false, laid := [("math/bits.deBruijn32tab", laid_math_bits_deBruijn32tab), ("math/bits.deBruijn64tab", laid_math_bits_deBruijn64tab), ("internal/strconv.uint64pow10", laid_internal_strconv_uint64pow10), ("tithe/api.ErrDay", laid_tithe_api_ErrDay), ("tithe/api.ErrSpan", laid_tithe_api_ErrSpan), ("tithe/day.months", laid_tithe_day_months)] }
def DayByDaySaid : Prop := dayByDayRow.holds Tryd.pinned (OpenSpec.ofChange dayByDaySpec)

/-- ITS FALSE NEIGHBOUR: 'it returns false'. Refute it at one input. -/
def dayByDayWrong : ChangeSpec := { name := "dayByDay", fn := fun _ => fun
  | [d1, d2, d3] => { results := [.lit (.bool false)], args := [d1, d2, d3] }
  | _ => none }
def DayByDayWrongFalsely : Prop := dayByDayRow.holds Tryd.pinned (OpenSpec.ofChange dayByDayWrong)

/-- 'tithelaw3.DayZero': WHATEVER THE INPUT: true; the input reads as it did. -/
def dayZeroSpec : ChangeSpec := { name := "dayZero", fn := fun _ => fun
  | [d1, d2] => { results := [.lit (.bool true)], args := [d1, d2] }
  | _ => none }
def dayZeroRow : OpenClaim := { program := "ythgdjocoiniphaadoor", sum := "e64695670719daf1455de2552b65bf8bee1ce1f7f9d8c448b59e28e7f57d5c74", func := "tithe/tithelaw3.DayZero", spec := "dayZero", unfollowed := true, recurses := true, named := ["tithe/api.ErrDay", "tithe/day.months", "internal/strconv.uint64pow10", "math/bits.deBruijn32tab", "math/bits.deBruijn64tab", "tithe/api.ErrSpan"], apart := false, laid := [("math/bits.deBruijn32tab", laid_math_bits_deBruijn32tab), ("math/bits.deBruijn64tab", laid_math_bits_deBruijn64tab), ("internal/strconv.uint64pow10", laid_internal_strconv_uint64pow10), ("tithe/api.ErrDay", laid_tithe_api_ErrDay), ("tithe/api.ErrSpan", laid_tithe_api_ErrSpan), ("tithe/day.months", laid_tithe_day_months)] }
def DayZeroSaid : Prop := dayZeroRow.holds Tryd.pinned (OpenSpec.ofChange dayZeroSpec)

/-- ITS FALSE NEIGHBOUR: 'it returns false'. Refute it at one input. -/
def dayZeroWrong : ChangeSpec := { name := "dayZero", fn := fun _ => fun
  | [d1, d2] => { results := [.lit (.bool false)], args := [d1, d2] }
  | _ => none }
def DayZeroWrongFalsely : Prop := dayZeroRow.holds Tryd.pinned (OpenSpec.ofChange dayZeroWrong)

/- THE SECOND FORM. 'bulk': how many values and letters a reading holds, each counted each time it is reached (what is shared counts as often as it is met; a slice's spare places count too). A statement '..UptoSaid' is the law's where the arguments, and the package variables that the reading takes, are together of bulk at most 1048576: NARROWER than '..Said'. Prove '..Said' where nothing that the law and all that it calls make is longer than what came in: it says more and counts as full. Else prove '..UptoSaid'. A law counts once. -/
mutual
def uptoBulk {H : Type} : DataW H → Nat
  | .lit (.string bytes) => bytes.length + 1
  | .lit _ => 1
  | .nil => 1
  | .ptr d => uptoBulk d + 1
  | .slice elems spare => uptoBulkAll elems + uptoBulkAll spare + 1
  | .agg parts => uptoBulkAll parts + 1
  | .iface _ d => uptoBulk d + 1
  | .map entries => uptoBulkEntries entries + 1
  | .held _ => 1
def uptoBulkAll {H : Type} : List (DataW H) → Nat
  | [] => 0
  | d :: r => uptoBulk d + uptoBulkAll r
def uptoBulkEntries {H : Type} : List (Lit × DataW H) → Nat
  | [] => 0
  | x :: r => uptoBulkEntry x + uptoBulkEntries r
def uptoBulkEntry {H : Type} : Lit × DataW H → Nat
  | (.string bytes, d) => bytes.length + uptoBulk d + 1
  | (_, d) => uptoBulk d + 1
 end
def uptoSmall : (H : Type) → List (DataW H) → Bool := fun _ ds => decide (uptoBulkAll ds ≤ 1048576)
def OpenSpec.upto (s : _root_.Go.ChangeSpec) : _root_.Go.OpenSpec := { _root_.Go.OpenSpec.ofChange s with cond := some uptoSmall }

/-- 'tithelaw15.ScaleTops', WHERE WHAT IT READS IS OF BULK AT MOST 1048576: true; the input reads as it did. -/
def scaleTopsUptoRow : OpenClaim := { program := "ythgdjocoiniphaadoor", sum := "e64695670719daf1455de2552b65bf8bee1ce1f7f9d8c448b59e28e7f57d5c74", func := "tithe/tithelaw15.ScaleTops", spec := "scaleTops", unfollowed := true, recurses := true, named := ["tithe/api.ErrNone", "tithe/api.ErrScale", "tithe/api.ErrFrac", "tithe/api.ErrMany", "tithe/api.ErrZero", "tithe/api.ErrRange"], apart := false, laid := [("tithe/api.ErrRange", laid_tithe_api_ErrRange), ("tithe/api.ErrZero", laid_tithe_api_ErrZero), ("tithe/api.ErrFrac", laid_tithe_api_ErrFrac), ("tithe/api.ErrScale", laid_tithe_api_ErrScale), ("tithe/api.ErrMany", laid_tithe_api_ErrMany), ("tithe/api.ErrNone", laid_tithe_api_ErrNone)], narrowed := true }
def ScaleTopsUptoSaid : Prop := scaleTopsUptoRow.holds Tryd.pinned (OpenSpec.upto scaleTopsSpec)

/-- 'tithelaw15.ScaleOwn', WHERE WHAT IT READS IS OF BULK AT MOST 1048576: true; the input reads as it did. -/
def scaleOwnUptoRow : OpenClaim := { program := "ythgdjocoiniphaadoor", sum := "e64695670719daf1455de2552b65bf8bee1ce1f7f9d8c448b59e28e7f57d5c74", func := "tithe/tithelaw15.ScaleOwn", spec := "scaleOwn", unfollowed := true, recurses := true, named := ["tithe/api.ErrNone", "tithe/api.ErrScale", "tithe/api.ErrFrac", "tithe/api.ErrMany", "tithe/api.ErrZero", "tithe/api.ErrRange"], apart := false, laid := [("tithe/api.ErrRange", laid_tithe_api_ErrRange), ("tithe/api.ErrZero", laid_tithe_api_ErrZero), ("tithe/api.ErrFrac", laid_tithe_api_ErrFrac), ("tithe/api.ErrScale", laid_tithe_api_ErrScale), ("tithe/api.ErrMany", laid_tithe_api_ErrMany), ("tithe/api.ErrNone", laid_tithe_api_ErrNone)], narrowed := true }
def ScaleOwnUptoSaid : Prop := scaleOwnUptoRow.holds Tryd.pinned (OpenSpec.upto scaleOwnSpec)

/-- 'tithelaw6.LineAll', WHERE WHAT IT READS IS OF BULK AT MOST 1048576: true; the input reads as it did. -/
def lineAllUptoRow : OpenClaim := { program := "ythgdjocoiniphaadoor", sum := "e64695670719daf1455de2552b65bf8bee1ce1f7f9d8c448b59e28e7f57d5c74", func := "tithe/tithelaw6.LineAll", spec := "lineAll", unfollowed := true, recurses := true, named := ["tithe/api.ErrSpan"], apart := false, laid := [("tithe/api.ErrSpan", laid_tithe_api_ErrSpan)], narrowed := true }
def LineAllUptoSaid : Prop := lineAllUptoRow.holds Tryd.pinned (OpenSpec.upto lineAllSpec)

/-- 'tithelaw6.LineLaws', WHERE WHAT IT READS IS OF BULK AT MOST 1048576: true; the input reads as it did. -/
def lineLawsUptoRow : OpenClaim := { program := "ythgdjocoiniphaadoor", sum := "e64695670719daf1455de2552b65bf8bee1ce1f7f9d8c448b59e28e7f57d5c74", func := "tithe/tithelaw6.LineLaws", spec := "lineLaws", unfollowed := true, recurses := true, named := ["tithe/api.ErrSpan"], apart := false, laid := [("tithe/api.ErrSpan", laid_tithe_api_ErrSpan)], narrowed := true }
def LineLawsUptoSaid : Prop := lineLawsUptoRow.holds Tryd.pinned (OpenSpec.upto lineLawsSpec)

/-- 'tithelaw6.LineLaid', WHERE WHAT IT READS IS OF BULK AT MOST 1048576: true; the input reads as it did. -/
def lineLaidUptoRow : OpenClaim := { program := "ythgdjocoiniphaadoor", sum := "e64695670719daf1455de2552b65bf8bee1ce1f7f9d8c448b59e28e7f57d5c74", func := "tithe/tithelaw6.LineLaid", spec := "lineLaid", unfollowed := true, recurses := true, named := ["tithe/api.ErrSpan"], apart := false, laid := [("tithe/api.ErrSpan", laid_tithe_api_ErrSpan)], narrowed := true }
def LineLaidUptoSaid : Prop := lineLaidUptoRow.holds Tryd.pinned (OpenSpec.upto lineLaidSpec)

/-- 'tithelaw3.DayYears', WHERE WHAT IT READS IS OF BULK AT MOST 1048576: true; the input reads as it did. -/
def dayYearsUptoRow : OpenClaim := { program := "ythgdjocoiniphaadoor", sum := "e64695670719daf1455de2552b65bf8bee1ce1f7f9d8c448b59e28e7f57d5c74", func := "tithe/tithelaw3.DayYears", spec := "dayYears", unfollowed := true, recurses := true, named := ["tithe/api.ErrDay", "tithe/day.months", "internal/strconv.uint64pow10", "math/bits.deBruijn32tab", "math/bits.deBruijn64tab", "tithe/api.ErrSpan"], apart := false, laid := [("math/bits.deBruijn32tab", laid_math_bits_deBruijn32tab), ("math/bits.deBruijn64tab", laid_math_bits_deBruijn64tab), ("internal/strconv.uint64pow10", laid_internal_strconv_uint64pow10), ("tithe/api.ErrDay", laid_tithe_api_ErrDay), ("tithe/api.ErrSpan", laid_tithe_api_ErrSpan), ("tithe/day.months", laid_tithe_day_months)], narrowed := true }
def DayYearsUptoSaid : Prop := dayYearsUptoRow.holds Tryd.pinned (OpenSpec.upto dayYearsSpec)

/-- 'tithelaw3.DayEach', WHERE WHAT IT READS IS OF BULK AT MOST 1048576: true; the input reads as it did. -/
def dayEachUptoRow : OpenClaim := { program := "ythgdjocoiniphaadoor", sum := "e64695670719daf1455de2552b65bf8bee1ce1f7f9d8c448b59e28e7f57d5c74", func := "tithe/tithelaw3.DayEach", spec := "dayEach", unfollowed := true, recurses := true, named := ["tithe/api.ErrDay", "tithe/day.months", "internal/strconv.uint64pow10", "math/bits.deBruijn32tab", "math/bits.deBruijn64tab", "tithe/api.ErrSpan"], apart := false, laid := [("math/bits.deBruijn32tab", laid_math_bits_deBruijn32tab), ("math/bits.deBruijn64tab", laid_math_bits_deBruijn64tab), ("internal/strconv.uint64pow10", laid_internal_strconv_uint64pow10), ("tithe/api.ErrDay", laid_tithe_api_ErrDay), ("tithe/api.ErrSpan", laid_tithe_api_ErrSpan), ("tithe/day.months", laid_tithe_day_months)], narrowed := true }
def DayEachUptoSaid : Prop := dayEachUptoRow.holds Tryd.pinned (OpenSpec.upto dayEachSpec)

/-- 'tithelaw3.DayOwn', WHERE WHAT IT READS IS OF BULK AT MOST 1048576: true; the input reads as it did. -/
def dayOwnUptoRow : OpenClaim := { program := "ythgdjocoiniphaadoor", sum := "e64695670719daf1455de2552b65bf8bee1ce1f7f9d8c448b59e28e7f57d5c74", func := "tithe/tithelaw3.DayOwn", spec := "dayOwn", unfollowed := true, recurses := true, named := ["tithe/api.ErrDay", "tithe/day.months", "internal/strconv.uint64pow10", "math/bits.deBruijn32tab", "math/bits.deBruijn64tab", "tithe/api.ErrSpan"], apart := false, laid := [("math/bits.deBruijn32tab", laid_math_bits_deBruijn32tab), ("math/bits.deBruijn64tab", laid_math_bits_deBruijn64tab), ("internal/strconv.uint64pow10", laid_internal_strconv_uint64pow10), ("tithe/api.ErrDay", laid_tithe_api_ErrDay), ("tithe/api.ErrSpan", laid_tithe_api_ErrSpan), ("tithe/day.months", laid_tithe_day_months)], narrowed := true }
def DayOwnUptoSaid : Prop := dayOwnUptoRow.holds Tryd.pinned (OpenSpec.upto dayOwnSpec)

/-- 'tithelaw3.DayNext', WHERE WHAT IT READS IS OF BULK AT MOST 1048576: true; the input reads as it did. -/
def dayNextUptoRow : OpenClaim := { program := "ythgdjocoiniphaadoor", sum := "e64695670719daf1455de2552b65bf8bee1ce1f7f9d8c448b59e28e7f57d5c74", func := "tithe/tithelaw3.DayNext", spec := "dayNext", unfollowed := true, recurses := true, named := ["tithe/api.ErrDay", "tithe/day.months", "internal/strconv.uint64pow10", "math/bits.deBruijn32tab", "math/bits.deBruijn64tab", "tithe/api.ErrSpan", "tithe/api.ErrText"], apart := false, laid := [("math/bits.deBruijn32tab", laid_math_bits_deBruijn32tab), ("math/bits.deBruijn64tab", laid_math_bits_deBruijn64tab), ("internal/strconv.uint64pow10", laid_internal_strconv_uint64pow10), ("tithe/api.ErrDay", laid_tithe_api_ErrDay), ("tithe/api.ErrSpan", laid_tithe_api_ErrSpan), ("tithe/api.ErrText", laid_tithe_api_ErrText), ("tithe/day.months", laid_tithe_day_months)], narrowed := true }
def DayNextUptoSaid : Prop := dayNextUptoRow.holds Tryd.pinned (OpenSpec.upto dayNextSpec)

/-- 'tithelaw3.DayByDay', WHERE WHAT IT READS IS OF BULK AT MOST 1048576: true; the input reads as it did. -/
def dayByDayUptoRow : OpenClaim := { program := "ythgdjocoiniphaadoor", sum := "e64695670719daf1455de2552b65bf8bee1ce1f7f9d8c448b59e28e7f57d5c74", func := "tithe/tithelaw3.DayByDay", spec := "dayByDay", unfollowed := true, recurses := true, named := ["tithe/api.ErrDay", "tithe/day.months", "internal/strconv.uint64pow10", "math/bits.deBruijn32tab", "math/bits.deBruijn64tab", "tithe/api.ErrSpan"], apart := false, laid := [("math/bits.deBruijn32tab", laid_math_bits_deBruijn32tab), ("math/bits.deBruijn64tab", laid_math_bits_deBruijn64tab), ("internal/strconv.uint64pow10", laid_internal_strconv_uint64pow10), ("tithe/api.ErrDay", laid_tithe_api_ErrDay), ("tithe/api.ErrSpan", laid_tithe_api_ErrSpan), ("tithe/day.months", laid_tithe_day_months)], narrowed := true }
def DayByDayUptoSaid : Prop := dayByDayUptoRow.holds Tryd.pinned (OpenSpec.upto dayByDaySpec)

/-- 'tithelaw3.DayZero', WHERE WHAT IT READS IS OF BULK AT MOST 1048576: true; the input reads as it did. -/
def dayZeroUptoRow : OpenClaim := { program := "ythgdjocoiniphaadoor", sum := "e64695670719daf1455de2552b65bf8bee1ce1f7f9d8c448b59e28e7f57d5c74", func := "tithe/tithelaw3.DayZero", spec := "dayZero", unfollowed := true, recurses := true, named := ["tithe/api.ErrDay", "tithe/day.months", "internal/strconv.uint64pow10", "math/bits.deBruijn32tab", "math/bits.deBruijn64tab", "tithe/api.ErrSpan"], apart := false, laid := [("math/bits.deBruijn32tab", laid_math_bits_deBruijn32tab), ("math/bits.deBruijn64tab", laid_math_bits_deBruijn64tab), ("internal/strconv.uint64pow10", laid_internal_strconv_uint64pow10), ("tithe/api.ErrDay", laid_tithe_api_ErrDay), ("tithe/api.ErrSpan", laid_tithe_api_ErrSpan), ("tithe/day.months", laid_tithe_day_months)], narrowed := true }
def DayZeroUptoSaid : Prop := dayZeroUptoRow.holds Tryd.pinned (OpenSpec.upto dayZeroSpec)

end Rows
end Go.Proofs.YthgdjocoiniphaaDoor
