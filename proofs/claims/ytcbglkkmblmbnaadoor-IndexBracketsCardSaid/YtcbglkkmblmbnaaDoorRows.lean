/-
  NARROWER THAN 'FOR EVERY INPUT', by the rows' own cells (each row's printed sentence says how): RoundShared: laid · RoundOrder: laid · RoundAgain: laid · RoundOnce: laid · IndexNear: laid · IndexRises: laid · IndexThrough: laid · IndexGives: laid · IndexBrackets: laid.
  DERIVED. THE GIVEN ROWS OF THIS SEAT. 9 by the template 'for every input the law returns true; each argument reads behind the call as it read before'; 0 by the template 'total and deterministic' (their statements: YtcbglkkmblmbnaaDoorTotals.lean).
  GIVEN WITH THE SEED: the statements are not yours to turn. If you find one false, say at which input.
  Laid BY PROGRAM, IN A SANDBOX (cutbox-rows.mjs): the forced cells as the released guide's own fill.sh prints them over the translation b829ba9f6cc3d546… (all of the seat's roots in one cut). By AI agents, Wed Nov 11 2026. No macro, syntax, notation, axiom, sorry.
-/
import Derived.Test.YtcbglkkmblmbnaaDoorChecked
import GoSem.Claim
import GoSem.ClaimJoined
import GoSem.ClaimMapViews
import Derived.JoinedTies
import Derived.KernelRfl
namespace Go.Proofs.YtcbglkkmblmbnaaDoor
/- THE CELL 'sum', in the pinned program and in every row, IS THE sha256 OF THE DUMP (.gsa) THAT YtcbglkkmblmbnaaDoorProg.lean LOADS. Nothing in Lean hashes anything: it is a label: what it is worth is what the hold of that sum in a sandbox is worth. -/
noncomputable def Tryd.pinned : Pinned := { name := "ytcbglkkmblmbnaadoor", sum := "b829ba9f6cc3d5463f7f4c9f840fabeee4c84b3e5e962e2d3bde0ff9a2d7da40", checked := Tryd.checked }
namespace Rows
def none {H : Type} : Left H := { results := [], args := [] }

/- WHAT THE LISTED PACKAGE-LEVEL VARIABLES READ AS WHEN THE CALL BEGINS. Each datum BY PROGRAM (the guide's laid-datum.mjs) off the statement by which the dump's own 'gosem.cut.vars' lays the variable. In a bare row this is a premise. The card (YtcbglkkmblmbnaaDoorCards.lean) ties it to the program's text. -/
def laid_tithe_api_ErrRange {H : Type} : DataW H := .iface "*errors.errorString" (.ptr (.agg [.lit (.string [97, 32, 110, 117, 109, 98, 101, 114, 32, 98, 101, 121, 111, 110, 100, 32, 116, 104, 101, 32, 114, 97, 110, 103, 101])]))
def laid_tithe_api_ErrZero {H : Type} : DataW H := .iface "*errors.errorString" (.ptr (.agg [.lit (.string [100, 105, 118, 105, 100, 101, 100, 32, 98, 121, 32, 122, 101, 114, 111])]))
def laid_tithe_api_ErrFrac {H : Type} : DataW H := .iface "*errors.errorString" (.ptr (.agg [.lit (.string [110, 111, 32, 102, 114, 97, 99, 116, 105, 111, 110])]))
def laid_tithe_api_ErrRound {H : Type} : DataW H := .iface "*errors.errorString" (.ptr (.agg [.lit (.string [110, 111, 32, 114, 111, 117, 110, 100, 105, 110, 103])]))
def laid_tithe_api_ErrMany {H : Type} : DataW H := .iface "*errors.errorString" (.ptr (.agg [.lit (.string [116, 111, 111, 32, 109, 97, 110, 121])]))
def laid_tithe_api_ErrNumber {H : Type} : DataW H := .iface "*errors.errorString" (.ptr (.agg [.lit (.string [110, 111, 32, 110, 117, 109, 98, 101, 114])]))
def laid_tithe_round_words {H : Type} : DataW H := .agg [.lit (.string [110, 111, 110, 101]), .lit (.string [100, 111, 119, 110]), .lit (.string [117, 112]), .lit (.string [102, 108, 111, 111, 114]), .lit (.string [99, 101, 105, 108]), .lit (.string [104, 97, 108, 102, 32, 117, 112]), .lit (.string [104, 97, 108, 102, 32, 101, 118, 101, 110])]
def laid_tithe_api_ErrScale {H : Type} : DataW H := .iface "*errors.errorString" (.ptr (.agg [.lit (.string [110, 111, 32, 115, 99, 97, 108, 101])]))

/-- 'tithelaw2.RoundShared': WHATEVER THE INPUT: true; the input reads as it did. -/
def roundSharedSpec : ChangeSpec := { name := "roundShared", fn := fun _ => fun
  | [d1, d2] => { results := [.lit (.bool true)], args := [d1, d2] }
  | _ => none }
def roundSharedRow : OpenClaim := { program := "ytcbglkkmblmbnaadoor", sum := "b829ba9f6cc3d5463f7f4c9f840fabeee4c84b3e5e962e2d3bde0ff9a2d7da40", func := "tithe/tithelaw2.RoundShared", spec := "roundShared", unfollowed := true, recurses := true, named := ["tithe/api.ErrRange", "tithe/api.ErrFrac", "tithe/api.ErrRound", "math/bits.divideError", "math/bits.overflowError", "tithe/api.ErrZero", "tithe/api.ErrMany", "tithe/api.ErrNumber", "tithe/round.words"], apart := false, laid := [("tithe/api.ErrRange", laid_tithe_api_ErrRange), ("tithe/api.ErrZero", laid_tithe_api_ErrZero), ("tithe/api.ErrFrac", laid_tithe_api_ErrFrac), ("tithe/api.ErrRound", laid_tithe_api_ErrRound), ("tithe/api.ErrMany", laid_tithe_api_ErrMany), ("tithe/api.ErrNumber", laid_tithe_api_ErrNumber), ("tithe/round.words", laid_tithe_round_words)] }
def RoundSharedSaid : Prop := roundSharedRow.holds Tryd.pinned (OpenSpec.ofChange roundSharedSpec)

/-- ITS FALSE NEIGHBOUR: 'it returns false'. Refute it at one input. -/
def roundSharedWrong : ChangeSpec := { name := "roundShared", fn := fun _ => fun
  | [d1, d2] => { results := [.lit (.bool false)], args := [d1, d2] }
  | _ => none }
def RoundSharedWrongFalsely : Prop := roundSharedRow.holds Tryd.pinned (OpenSpec.ofChange roundSharedWrong)

/-- 'tithelaw2.RoundOrder': WHATEVER THE INPUT: true; the input reads as it did. -/
def roundOrderSpec : ChangeSpec := { name := "roundOrder", fn := fun _ => fun
  | [d1, d2, d3] => { results := [.lit (.bool true)], args := [d1, d2, d3] }
  | _ => none }
def roundOrderRow : OpenClaim := { program := "ytcbglkkmblmbnaadoor", sum := "b829ba9f6cc3d5463f7f4c9f840fabeee4c84b3e5e962e2d3bde0ff9a2d7da40", func := "tithe/tithelaw2.RoundOrder", spec := "roundOrder", unfollowed := true, recurses := true, named := ["tithe/api.ErrRange", "tithe/api.ErrFrac", "tithe/api.ErrRound", "math/bits.divideError", "math/bits.overflowError", "tithe/api.ErrZero", "tithe/api.ErrMany", "tithe/api.ErrNumber", "tithe/round.words"], apart := false, laid := [("tithe/api.ErrRange", laid_tithe_api_ErrRange), ("tithe/api.ErrZero", laid_tithe_api_ErrZero), ("tithe/api.ErrFrac", laid_tithe_api_ErrFrac), ("tithe/api.ErrRound", laid_tithe_api_ErrRound), ("tithe/api.ErrMany", laid_tithe_api_ErrMany), ("tithe/api.ErrNumber", laid_tithe_api_ErrNumber), ("tithe/round.words", laid_tithe_round_words)] }
def RoundOrderSaid : Prop := roundOrderRow.holds Tryd.pinned (OpenSpec.ofChange roundOrderSpec)

/-- ITS FALSE NEIGHBOUR: 'it returns false'. Refute it at one input. -/
def roundOrderWrong : ChangeSpec := { name := "roundOrder", fn := fun _ => fun
  | [d1, d2, d3] => { results := [.lit (.bool false)], args := [d1, d2, d3] }
  | _ => none }
def RoundOrderWrongFalsely : Prop := roundOrderRow.holds Tryd.pinned (OpenSpec.ofChange roundOrderWrong)

/-- 'tithelaw2.RoundAgain': WHATEVER THE INPUT: true; the input reads as it did. -/
def roundAgainSpec : ChangeSpec := { name := "roundAgain", fn := fun _ => fun
  | [d1, d2] => { results := [.lit (.bool true)], args := [d1, d2] }
  | _ => none }
def roundAgainRow : OpenClaim := { program := "ytcbglkkmblmbnaadoor", sum := "b829ba9f6cc3d5463f7f4c9f840fabeee4c84b3e5e962e2d3bde0ff9a2d7da40", func := "tithe/tithelaw2.RoundAgain", spec := "roundAgain", unfollowed := true, recurses := true, named := ["tithe/api.ErrRange", "tithe/api.ErrFrac", "tithe/api.ErrRound", "math/bits.divideError", "math/bits.overflowError", "tithe/api.ErrZero", "tithe/api.ErrMany", "tithe/api.ErrNumber", "tithe/round.words"], apart := false, laid := [("tithe/api.ErrRange", laid_tithe_api_ErrRange), ("tithe/api.ErrZero", laid_tithe_api_ErrZero), ("tithe/api.ErrFrac", laid_tithe_api_ErrFrac), ("tithe/api.ErrRound", laid_tithe_api_ErrRound), ("tithe/api.ErrMany", laid_tithe_api_ErrMany), ("tithe/api.ErrNumber", laid_tithe_api_ErrNumber), ("tithe/round.words", laid_tithe_round_words)] }
def RoundAgainSaid : Prop := roundAgainRow.holds Tryd.pinned (OpenSpec.ofChange roundAgainSpec)

/-- ITS FALSE NEIGHBOUR: 'it returns false'. Refute it at one input. -/
def roundAgainWrong : ChangeSpec := { name := "roundAgain", fn := fun _ => fun
  | [d1, d2] => { results := [.lit (.bool false)], args := [d1, d2] }
  | _ => none }
def RoundAgainWrongFalsely : Prop := roundAgainRow.holds Tryd.pinned (OpenSpec.ofChange roundAgainWrong)

/-- 'tithelaw2.RoundOnce': WHATEVER THE INPUT: true; the input reads as it did. -/
def roundOnceSpec : ChangeSpec := { name := "roundOnce", fn := fun _ => fun
  | [d1, d2] => { results := [.lit (.bool true)], args := [d1, d2] }
  | _ => none }
def roundOnceRow : OpenClaim := { program := "ytcbglkkmblmbnaadoor", sum := "b829ba9f6cc3d5463f7f4c9f840fabeee4c84b3e5e962e2d3bde0ff9a2d7da40", func := "tithe/tithelaw2.RoundOnce", spec := "roundOnce", unfollowed := true, recurses := true, named := ["tithe/api.ErrRange", "tithe/api.ErrFrac", "tithe/api.ErrRound", "math/bits.divideError", "math/bits.overflowError", "tithe/api.ErrZero", "tithe/api.ErrMany", "tithe/api.ErrNumber", "tithe/round.words"], apart := false, laid := [("tithe/api.ErrRange", laid_tithe_api_ErrRange), ("tithe/api.ErrZero", laid_tithe_api_ErrZero), ("tithe/api.ErrFrac", laid_tithe_api_ErrFrac), ("tithe/api.ErrRound", laid_tithe_api_ErrRound), ("tithe/api.ErrMany", laid_tithe_api_ErrMany), ("tithe/api.ErrNumber", laid_tithe_api_ErrNumber), ("tithe/round.words", laid_tithe_round_words)] }
def RoundOnceSaid : Prop := roundOnceRow.holds Tryd.pinned (OpenSpec.ofChange roundOnceSpec)

/-- ITS FALSE NEIGHBOUR: 'it returns false'. Refute it at one input. -/
def roundOnceWrong : ChangeSpec := { name := "roundOnce", fn := fun _ => fun
  | [d1, d2] => { results := [.lit (.bool false)], args := [d1, d2] }
  | _ => none }
def RoundOnceWrongFalsely : Prop := roundOnceRow.holds Tryd.pinned (OpenSpec.ofChange roundOnceWrong)

/-- 'tithelaw16.IndexNear': WHATEVER THE INPUT: true; the input reads as it did. -/
def indexNearSpec : ChangeSpec := { name := "indexNear", fn := fun _ => fun
  | [d1, d2, d3, d4] => { results := [.lit (.bool true)], args := [d1, d2, d3, d4] }
  | _ => none }
def indexNearRow : OpenClaim := { program := "ytcbglkkmblmbnaadoor", sum := "b829ba9f6cc3d5463f7f4c9f840fabeee4c84b3e5e962e2d3bde0ff9a2d7da40", func := "tithe/tithelaw16.IndexNear", spec := "indexNear", unfollowed := true, recurses := true, named := ["tithe/api.ErrRound", "tithe/api.ErrFrac", "tithe/api.ErrRange", "tithe/api.ErrZero", "math/bits.divideError", "math/bits.overflowError", "tithe/api.ErrScale"], apart := false, laid := [("tithe/api.ErrRange", laid_tithe_api_ErrRange), ("tithe/api.ErrZero", laid_tithe_api_ErrZero), ("tithe/api.ErrFrac", laid_tithe_api_ErrFrac), ("tithe/api.ErrRound", laid_tithe_api_ErrRound), ("tithe/api.ErrScale", laid_tithe_api_ErrScale)] }
def IndexNearSaid : Prop := indexNearRow.holds Tryd.pinned (OpenSpec.ofChange indexNearSpec)

/-- ITS FALSE NEIGHBOUR: 'it returns false'. Refute it at one input. -/
def indexNearWrong : ChangeSpec := { name := "indexNear", fn := fun _ => fun
  | [d1, d2, d3, d4] => { results := [.lit (.bool false)], args := [d1, d2, d3, d4] }
  | _ => none }
def IndexNearWrongFalsely : Prop := indexNearRow.holds Tryd.pinned (OpenSpec.ofChange indexNearWrong)

/-- 'tithelaw16.IndexRises': WHATEVER THE INPUT: true; the input reads as it did. -/
def indexRisesSpec : ChangeSpec := { name := "indexRises", fn := fun _ => fun
  | [d1, d2, d3, d4, d5] => { results := [.lit (.bool true)], args := [d1, d2, d3, d4, d5] }
  | _ => none }
def indexRisesRow : OpenClaim := { program := "ytcbglkkmblmbnaadoor", sum := "b829ba9f6cc3d5463f7f4c9f840fabeee4c84b3e5e962e2d3bde0ff9a2d7da40", func := "tithe/tithelaw16.IndexRises", spec := "indexRises", unfollowed := true, recurses := true, named := ["tithe/api.ErrRound", "tithe/api.ErrFrac", "tithe/api.ErrRange", "tithe/api.ErrZero", "math/bits.divideError", "math/bits.overflowError", "tithe/api.ErrScale"], apart := false, laid := [("tithe/api.ErrRange", laid_tithe_api_ErrRange), ("tithe/api.ErrZero", laid_tithe_api_ErrZero), ("tithe/api.ErrFrac", laid_tithe_api_ErrFrac), ("tithe/api.ErrRound", laid_tithe_api_ErrRound), ("tithe/api.ErrScale", laid_tithe_api_ErrScale)] }
def IndexRisesSaid : Prop := indexRisesRow.holds Tryd.pinned (OpenSpec.ofChange indexRisesSpec)

/-- ITS FALSE NEIGHBOUR: 'it returns false'. Refute it at one input. -/
def indexRisesWrong : ChangeSpec := { name := "indexRises", fn := fun _ => fun
  | [d1, d2, d3, d4, d5] => { results := [.lit (.bool false)], args := [d1, d2, d3, d4, d5] }
  | _ => none }
def IndexRisesWrongFalsely : Prop := indexRisesRow.holds Tryd.pinned (OpenSpec.ofChange indexRisesWrong)

/-- 'tithelaw16.IndexThrough': WHATEVER THE INPUT: true; the input reads as it did. -/
def indexThroughSpec : ChangeSpec := { name := "indexThrough", fn := fun _ => fun
  | [d1, d2, d3, d4] => { results := [.lit (.bool true)], args := [d1, d2, d3, d4] }
  | _ => none }
def indexThroughRow : OpenClaim := { program := "ytcbglkkmblmbnaadoor", sum := "b829ba9f6cc3d5463f7f4c9f840fabeee4c84b3e5e962e2d3bde0ff9a2d7da40", func := "tithe/tithelaw16.IndexThrough", spec := "indexThrough", unfollowed := true, recurses := true, named := ["tithe/api.ErrRound", "tithe/api.ErrFrac", "tithe/api.ErrRange", "tithe/api.ErrZero", "math/bits.divideError", "math/bits.overflowError", "tithe/api.ErrScale"], apart := false, laid := [("tithe/api.ErrRange", laid_tithe_api_ErrRange), ("tithe/api.ErrZero", laid_tithe_api_ErrZero), ("tithe/api.ErrFrac", laid_tithe_api_ErrFrac), ("tithe/api.ErrRound", laid_tithe_api_ErrRound), ("tithe/api.ErrScale", laid_tithe_api_ErrScale)] }
def IndexThroughSaid : Prop := indexThroughRow.holds Tryd.pinned (OpenSpec.ofChange indexThroughSpec)

/-- ITS FALSE NEIGHBOUR: 'it returns false'. Refute it at one input. -/
def indexThroughWrong : ChangeSpec := { name := "indexThrough", fn := fun _ => fun
  | [d1, d2, d3, d4] => { results := [.lit (.bool false)], args := [d1, d2, d3, d4] }
  | _ => none }
def IndexThroughWrongFalsely : Prop := indexThroughRow.holds Tryd.pinned (OpenSpec.ofChange indexThroughWrong)

/-- 'tithelaw16.IndexGives': WHATEVER THE INPUT: true; the input reads as it did. -/
def indexGivesSpec : ChangeSpec := { name := "indexGives", fn := fun _ => fun
  | [d1, d2, d3, d4, d5] => { results := [.lit (.bool true)], args := [d1, d2, d3, d4, d5] }
  | _ => none }
def indexGivesRow : OpenClaim := { program := "ytcbglkkmblmbnaadoor", sum := "b829ba9f6cc3d5463f7f4c9f840fabeee4c84b3e5e962e2d3bde0ff9a2d7da40", func := "tithe/tithelaw16.IndexGives", spec := "indexGives", unfollowed := true, recurses := true, named := ["tithe/api.ErrRound", "tithe/api.ErrFrac", "tithe/api.ErrRange", "tithe/api.ErrZero", "math/bits.divideError", "math/bits.overflowError", "tithe/api.ErrScale"], apart := false, laid := [("tithe/api.ErrRange", laid_tithe_api_ErrRange), ("tithe/api.ErrZero", laid_tithe_api_ErrZero), ("tithe/api.ErrFrac", laid_tithe_api_ErrFrac), ("tithe/api.ErrRound", laid_tithe_api_ErrRound), ("tithe/api.ErrScale", laid_tithe_api_ErrScale)] }
def IndexGivesSaid : Prop := indexGivesRow.holds Tryd.pinned (OpenSpec.ofChange indexGivesSpec)

/-- ITS FALSE NEIGHBOUR: 'it returns false'. Refute it at one input. -/
def indexGivesWrong : ChangeSpec := { name := "indexGives", fn := fun _ => fun
  | [d1, d2, d3, d4, d5] => { results := [.lit (.bool false)], args := [d1, d2, d3, d4, d5] }
  | _ => none }
def IndexGivesWrongFalsely : Prop := indexGivesRow.holds Tryd.pinned (OpenSpec.ofChange indexGivesWrong)

/-- 'tithelaw16.IndexBrackets': WHATEVER THE INPUT: true; the input reads as it did. -/
def indexBracketsSpec : ChangeSpec := { name := "indexBrackets", fn := fun _ => fun
  | [d1, d2, d3] => { results := [.lit (.bool true)], args := [d1, d2, d3] }
  | _ => none }
def indexBracketsRow : OpenClaim := { program := "ytcbglkkmblmbnaadoor", sum := "b829ba9f6cc3d5463f7f4c9f840fabeee4c84b3e5e962e2d3bde0ff9a2d7da40", func := "tithe/tithelaw16.IndexBrackets", spec := "indexBrackets", unfollowed := true, recurses := true, named := ["tithe/api.ErrMany", "tithe/api.ErrRound", "tithe/api.ErrFrac", "tithe/api.ErrRange", "tithe/api.ErrZero", "math/bits.divideError", "math/bits.overflowError", "tithe/api.ErrScale"], apart := false, laid := [("tithe/api.ErrRange", laid_tithe_api_ErrRange), ("tithe/api.ErrZero", laid_tithe_api_ErrZero), ("tithe/api.ErrFrac", laid_tithe_api_ErrFrac), ("tithe/api.ErrRound", laid_tithe_api_ErrRound), ("tithe/api.ErrScale", laid_tithe_api_ErrScale), ("tithe/api.ErrMany", laid_tithe_api_ErrMany)] }
def IndexBracketsSaid : Prop := indexBracketsRow.holds Tryd.pinned (OpenSpec.ofChange indexBracketsSpec)

/-- ITS FALSE NEIGHBOUR: 'it returns false'. Refute it at one input. -/
def indexBracketsWrong : ChangeSpec := { name := "indexBrackets", fn := fun _ => fun
  | [d1, d2, d3] => { results := [.lit (.bool false)], args := [d1, d2, d3] }
  | _ => none }
def IndexBracketsWrongFalsely : Prop := indexBracketsRow.holds Tryd.pinned (OpenSpec.ofChange indexBracketsWrong)

/- THE SECOND FORM. 'bulk': how many values and letters a reading holds, each counted each time it is reached (what is shared counts as often as it is met; a slice's spare places count too). A statement '..UptoSaid' is the law's where the arguments, and the package variables that the reading takes, are together of bulk at most 1048576: NARROWER than '..Said'. Prove '..Said' where nothing that the law and all that it calls make is longer than what came in: it says more and counts as full. Else prove '..UptoSaid'. A law counts once. -/
mutual
def uptoBulk {H : Type} : DataW H → Nat
  | .lit (.string bytes) => bytes.length + 1
  | .lit _ => 1
  | .nil => 1
  | .ptr d => uptoBulk d + 1
  | .slice elems spare => uptoBulkAll elems + uptoBulkAll spare + 1
  | .agg parts => uptoBulkAll parts + 1
  | .iface _ d => uptoBulk d + 1
  | .map entries => uptoBulkEntries entries + 1
  | .held _ => 1
def uptoBulkAll {H : Type} : List (DataW H) → Nat
  | [] => 0
  | d :: r => uptoBulk d + uptoBulkAll r
def uptoBulkEntries {H : Type} : List (Lit × DataW H) → Nat
  | [] => 0
  | x :: r => uptoBulkEntry x + uptoBulkEntries r
def uptoBulkEntry {H : Type} : Lit × DataW H → Nat
  | (.string bytes, d) => bytes.length + uptoBulk d + 1
  | (_, d) => uptoBulk d + 1
 end
def uptoSmall : (H : Type) → List (DataW H) → Bool := fun _ ds => decide (uptoBulkAll ds ≤ 1048576)
def OpenSpec.upto (s : _root_.Go.ChangeSpec) : _root_.Go.OpenSpec := { _root_.Go.OpenSpec.ofChange s with cond := some uptoSmall }

/-- 'tithelaw2.RoundShared', WHERE WHAT IT READS IS OF BULK AT MOST 1048576: true; the input reads as it did. -/
def roundSharedUptoRow : OpenClaim := { program := "ytcbglkkmblmbnaadoor", sum := "b829ba9f6cc3d5463f7f4c9f840fabeee4c84b3e5e962e2d3bde0ff9a2d7da40", func := "tithe/tithelaw2.RoundShared", spec := "roundShared", unfollowed := true, recurses := true, named := ["tithe/api.ErrRange", "tithe/api.ErrFrac", "tithe/api.ErrRound", "math/bits.divideError", "math/bits.overflowError", "tithe/api.ErrZero", "tithe/api.ErrMany", "tithe/api.ErrNumber", "tithe/round.words"], apart := false, laid := [("tithe/api.ErrRange", laid_tithe_api_ErrRange), ("tithe/api.ErrZero", laid_tithe_api_ErrZero), ("tithe/api.ErrFrac", laid_tithe_api_ErrFrac), ("tithe/api.ErrRound", laid_tithe_api_ErrRound), ("tithe/api.ErrMany", laid_tithe_api_ErrMany), ("tithe/api.ErrNumber", laid_tithe_api_ErrNumber), ("tithe/round.words", laid_tithe_round_words)], narrowed := true }
def RoundSharedUptoSaid : Prop := roundSharedUptoRow.holds Tryd.pinned (OpenSpec.upto roundSharedSpec)

/-- 'tithelaw2.RoundOrder', WHERE WHAT IT READS IS OF BULK AT MOST 1048576: true; the input reads as it did. -/
def roundOrderUptoRow : OpenClaim := { program := "ytcbglkkmblmbnaadoor", sum := "b829ba9f6cc3d5463f7f4c9f840fabeee4c84b3e5e962e2d3bde0ff9a2d7da40", func := "tithe/tithelaw2.RoundOrder", spec := "roundOrder", unfollowed := true, recurses := true, named := ["tithe/api.ErrRange", "tithe/api.ErrFrac", "tithe/api.ErrRound", "math/bits.divideError", "math/bits.overflowError", "tithe/api.ErrZero", "tithe/api.ErrMany", "tithe/api.ErrNumber", "tithe/round.words"], apart := false, laid := [("tithe/api.ErrRange", laid_tithe_api_ErrRange), ("tithe/api.ErrZero", laid_tithe_api_ErrZero), ("tithe/api.ErrFrac", laid_tithe_api_ErrFrac), ("tithe/api.ErrRound", laid_tithe_api_ErrRound), ("tithe/api.ErrMany", laid_tithe_api_ErrMany), ("tithe/api.ErrNumber", laid_tithe_api_ErrNumber), ("tithe/round.words", laid_tithe_round_words)], narrowed := true }
def RoundOrderUptoSaid : Prop := roundOrderUptoRow.holds Tryd.pinned (OpenSpec.upto roundOrderSpec)

/-- 'tithelaw2.RoundAgain', WHERE WHAT IT READS IS OF BULK AT MOST 1048576: true; the input reads as it did. -/
def roundAgainUptoRow : OpenClaim := { program := "ytcbglkkmblmbnaadoor", sum := "b829ba9f6cc3d5463f7f4c9f840fabeee4c84b3e5e962e2d3bde0ff9a2d7da40", func := "tithe/tithelaw2.RoundAgain", spec := "roundAgain", unfollowed := true, recurses := true, named := ["tithe/api.ErrRange", "tithe/api.ErrFrac", "tithe/api.ErrRound", "math/bits.divideError", "math/bits.overflowError", "tithe/api.ErrZero", "tithe/api.ErrMany", "tithe/api.ErrNumber", "tithe/round.words"], apart := false, laid := [("tithe/api.ErrRange", laid_tithe_api_ErrRange), ("tithe/api.ErrZero", laid_tithe_api_ErrZero), ("tithe/api.ErrFrac", laid_tithe_api_ErrFrac), ("tithe/api.ErrRound", laid_tithe_api_ErrRound), ("tithe/api.ErrMany", laid_tithe_api_ErrMany), ("tithe/api.ErrNumber", laid_tithe_api_ErrNumber), ("tithe/round.words", laid_tithe_round_words)], narrowed := true }
def RoundAgainUptoSaid : Prop := roundAgainUptoRow.holds Tryd.pinned (OpenSpec.upto roundAgainSpec)

/-- 'tithelaw2.RoundOnce', WHERE WHAT IT READS IS OF BULK AT MOST 1048576: true; the input reads as it did. -/
def roundOnceUptoRow : OpenClaim := { program := "ytcbglkkmblmbnaadoor", sum := "b829ba9f6cc3d5463f7f4c9f840fabeee4c84b3e5e962e2d3bde0ff9a2d7da40", func := "tithe/tithelaw2.RoundOnce", spec := "roundOnce", unfollowed := true, recurses := true, named := ["tithe/api.ErrRange", "tithe/api.ErrFrac", "tithe/api.ErrRound", "math/bits.divideError", "math/bits.overflowError", "tithe/api.ErrZero", "tithe/api.ErrMany", "tithe/api.ErrNumber", "tithe/round.words"], apart := false, laid := [("tithe/api.ErrRange", laid_tithe_api_ErrRange), ("tithe/api.ErrZero", laid_tithe_api_ErrZero), ("tithe/api.ErrFrac", laid_tithe_api_ErrFrac), ("tithe/api.ErrRound", laid_tithe_api_ErrRound), ("tithe/api.ErrMany", laid_tithe_api_ErrMany), ("tithe/api.ErrNumber", laid_tithe_api_ErrNumber), ("tithe/round.words", laid_tithe_round_words)], narrowed := true }
def RoundOnceUptoSaid : Prop := roundOnceUptoRow.holds Tryd.pinned (OpenSpec.upto roundOnceSpec)

/-- 'tithelaw16.IndexNear', WHERE WHAT IT READS IS OF BULK AT MOST 1048576: true; the input reads as it did. -/
def indexNearUptoRow : OpenClaim := { program := "ytcbglkkmblmbnaadoor", sum := "b829ba9f6cc3d5463f7f4c9f840fabeee4c84b3e5e962e2d3bde0ff9a2d7da40", func := "tithe/tithelaw16.IndexNear", spec := "indexNear", unfollowed := true, recurses := true, named := ["tithe/api.ErrRound", "tithe/api.ErrFrac", "tithe/api.ErrRange", "tithe/api.ErrZero", "math/bits.divideError", "math/bits.overflowError", "tithe/api.ErrScale"], apart := false, laid := [("tithe/api.ErrRange", laid_tithe_api_ErrRange), ("tithe/api.ErrZero", laid_tithe_api_ErrZero), ("tithe/api.ErrFrac", laid_tithe_api_ErrFrac), ("tithe/api.ErrRound", laid_tithe_api_ErrRound), ("tithe/api.ErrScale", laid_tithe_api_ErrScale)], narrowed := true }
def IndexNearUptoSaid : Prop := indexNearUptoRow.holds Tryd.pinned (OpenSpec.upto indexNearSpec)

/-- 'tithelaw16.IndexRises', WHERE WHAT IT READS IS OF BULK AT MOST 1048576: true; the input reads as it did. -/
def indexRisesUptoRow : OpenClaim := { program := "ytcbglkkmblmbnaadoor", sum := "b829ba9f6cc3d5463f7f4c9f840fabeee4c84b3e5e962e2d3bde0ff9a2d7da40", func := "tithe/tithelaw16.IndexRises", spec := "indexRises", unfollowed := true, recurses := true, named := ["tithe/api.ErrRound", "tithe/api.ErrFrac", "tithe/api.ErrRange", "tithe/api.ErrZero", "math/bits.divideError", "math/bits.overflowError", "tithe/api.ErrScale"], apart := false, laid := [("tithe/api.ErrRange", laid_tithe_api_ErrRange), ("tithe/api.ErrZero", laid_tithe_api_ErrZero), ("tithe/api.ErrFrac", laid_tithe_api_ErrFrac), ("tithe/api.ErrRound", laid_tithe_api_ErrRound), ("tithe/api.ErrScale", laid_tithe_api_ErrScale)], narrowed := true }
def IndexRisesUptoSaid : Prop := indexRisesUptoRow.holds Tryd.pinned (OpenSpec.upto indexRisesSpec)

/-- 'tithelaw16.IndexThrough', WHERE WHAT IT READS IS OF BULK AT MOST 1048576: true; the input reads as it did. -/
def indexThroughUptoRow : OpenClaim := { program := "ytcbglkkmblmbnaadoor", sum := "b829ba9f6cc3d5463f7f4c9f840fabeee4c84b3e5e962e2d3bde0ff9a2d7da40", func := "tithe/tithelaw16.IndexThrough", spec := "indexThrough", unfollowed := true, recurses := true, named := ["tithe/api.ErrRound", "tithe/api.ErrFrac", "tithe/api.ErrRange", "tithe/api.ErrZero", "math/bits.divideError", "math/bits.overflowError", "tithe/api.ErrScale"], apart := false, laid := [("tithe/api.ErrRange", laid_tithe_api_ErrRange), ("tithe/api.ErrZero", laid_tithe_api_ErrZero), ("tithe/api.ErrFrac", laid_tithe_api_ErrFrac), ("tithe/api.ErrRound", laid_tithe_api_ErrRound), ("tithe/api.ErrScale", laid_tithe_api_ErrScale)], narrowed := true }
def IndexThroughUptoSaid : Prop := indexThroughUptoRow.holds Tryd.pinned (OpenSpec.upto indexThroughSpec)

/-- 'tithelaw16.IndexGives', WHERE WHAT IT READS IS OF BULK AT MOST 1048576: true; the input reads as it did. -/
def indexGivesUptoRow : OpenClaim := { program := "ytcbglkkmblmbnaadoor", sum := "b829ba9f6cc3d5463f7f4c9f840fabeee4c84b3e5e962e2d3bde0ff9a2d7da40", func := "tithe/tithelaw16.IndexGives", spec := "indexGives", unfollowed := true, recurses := true, named := ["tithe/api.ErrRound", "tithe/api.ErrFrac", "tithe/api.ErrRange", "tithe/api.ErrZero", "math/bits.divideError", "math/bits.overflowError", "tithe/api.ErrScale"], apart := false, laid := [("tithe/api.ErrRange", laid_tithe_api_ErrRange), ("tithe/api.ErrZero", laid_tithe_api_ErrZero), ("tithe/api.ErrFrac", laid_tithe_api_ErrFrac), ("tithe/api.ErrRound", laid_tithe_api_ErrRound), ("tithe/api.ErrScale", laid_tithe_api_ErrScale)], narrowed := true }
def IndexGivesUptoSaid : Prop := indexGivesUptoRow.holds Tryd.pinned (OpenSpec.upto indexGivesSpec)

/-- 'tithelaw16.IndexBrackets', WHERE WHAT IT READS IS OF BULK AT MOST 1048576: true; the input reads as it did. -/
def indexBracketsUptoRow : OpenClaim := { program := "ytcbglkkmblmbnaadoor", sum := "b829ba9f6cc3d5463f7f4c9f840fabeee4c84b3e5e962e2d3bde0ff9a2d7da40", func := "tithe/tithelaw16.IndexBrackets", spec := "indexBrackets", unfollowed := true, recurses := true, named := ["tithe/api.ErrMany", "tithe/api.ErrRound", "tithe/api.ErrFrac", "tithe/api.ErrRange", "tithe/api.ErrZero", "math/bits.divideError", "math/bits.overflowError", "tithe/api.ErrScale"], apart := false, laid := [("tithe/api.ErrRange", laid_tithe_api_ErrRange), ("tithe/api.ErrZero", laid_tithe_api_ErrZero), ("tithe/api.ErrFrac", laid_tithe_api_ErrFrac), ("tithe/api.ErrRound", laid_tithe_api_ErrRound), ("tithe/api.ErrScale", laid_tithe_api_ErrScale), ("tithe/api.ErrMany", laid_tithe_api_ErrMany)], narrowed := true }
def IndexBracketsUptoSaid : Prop := indexBracketsUptoRow.holds Tryd.pinned (OpenSpec.upto indexBracketsSpec)

end Rows
end Go.Proofs.YtcbglkkmblmbnaaDoor
