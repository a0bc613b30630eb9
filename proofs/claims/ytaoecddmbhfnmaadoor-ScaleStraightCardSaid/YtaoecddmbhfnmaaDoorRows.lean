/-
  NARROWER THAN 'FOR EVERY INPUT', by the rows' own cells (each row's printed sentence says how): ScaleStraight: laid · ScaleFinds: laid · ScaleRises: laid · ScaleSums: laid · ScaleTops: laid · ScaleOwn: laid.
  DERIVED. THE GIVEN ROWS OF THIS SEAT. 6 by the template 'for every input the law returns true; each argument reads behind the call as it read before'; 0 by the template 'total and deterministic' (their statements: YtaoecddmbhfnmaaDoorTotals.lean).
  GIVEN WITH THE SEED: the statements are not yours to turn. If you find one false, say at which input.
  Laid BY PROGRAM, IN A SANDBOX (cutbox-rows.mjs): the forced cells as the released guide's own fill.sh prints them over the translation 60c1bb88426c10f4… (all of the seat's roots in one cut). By AI agents, Wed Nov 11 2026. No macro, syntax, notation, axiom, sorry.
-/
import Derived.Test.YtaoecddmbhfnmaaDoorChecked
import GoSem.Claim
import GoSem.ClaimJoined
import GoSem.ClaimMapViews
import Derived.JoinedTies
import Derived.KernelRfl
namespace Go.Proofs.YtaoecddmbhfnmaaDoor
/- THE CELL 'sum', in the pinned program and in every row, IS THE sha256 OF THE DUMP (.gsa) THAT YtaoecddmbhfnmaaDoorProg.lean LOADS. Nothing in Lean hashes anything: it is a label: what it is worth is what the hold of that sum in a sandbox is worth. -/
noncomputable def Tryd.pinned : Pinned := { name := "ytaoecddmbhfnmaadoor", sum := "60c1bb88426c10f4f807f3e23a7009efc05eb6cb058b7f419158f49a526edb95", checked := Tryd.checked }
namespace Rows
def none {H : Type} : Left H := { results := [], args := [] }

/- WHAT THE LISTED PACKAGE-LEVEL VARIABLES READ AS WHEN THE CALL BEGINS. Each datum BY PROGRAM (the guide's laid-datum.mjs) off the statement by which the dump's own 'gosem.cut.vars' lays the variable. In a bare row this is a premise. The card (YtaoecddmbhfnmaaDoorCards.lean) ties it to the program's text. -/
def laid_tithe_api_ErrRange {H : Type} : DataW H := .iface "*errors.errorString" (.ptr (.agg [.lit (.string [97, 32, 110, 117, 109, 98, 101, 114, 32, 98, 101, 121, 111, 110, 100, 32, 116, 104, 101, 32, 114, 97, 110, 103, 101])]))
def laid_tithe_api_ErrZero {H : Type} : DataW H := .iface "*errors.errorString" (.ptr (.agg [.lit (.string [100, 105, 118, 105, 100, 101, 100, 32, 98, 121, 32, 122, 101, 114, 111])]))
def laid_tithe_api_ErrFrac {H : Type} : DataW H := .iface "*errors.errorString" (.ptr (.agg [.lit (.string [110, 111, 32, 102, 114, 97, 99, 116, 105, 111, 110])]))
def laid_tithe_api_ErrScale {H : Type} : DataW H := .iface "*errors.errorString" (.ptr (.agg [.lit (.string [110, 111, 32, 115, 99, 97, 108, 101])]))
def laid_tithe_api_ErrMany {H : Type} : DataW H := .iface "*errors.errorString" (.ptr (.agg [.lit (.string [116, 111, 111, 32, 109, 97, 110, 121])]))
def laid_tithe_api_ErrNone {H : Type} : DataW H := .iface "*errors.errorString" (.ptr (.agg [.lit (.string [116, 104, 101, 114, 101, 32, 105, 115, 32, 110, 111, 110, 101])]))

/-- 'tithelaw15.ScaleStraight': WHATEVER THE INPUT: true; the input reads as it did. -/
def scaleStraightSpec : ChangeSpec := { name := "scaleStraight", fn := fun _ => fun
  | [d1, d2, d3] => { results := [.lit (.bool true)], args := [d1, d2, d3] }
  | _ => none }
def scaleStraightRow : OpenClaim := { program := "ytaoecddmbhfnmaadoor", sum := "60c1bb88426c10f4f807f3e23a7009efc05eb6cb058b7f419158f49a526edb95", func := "tithe/tithelaw15.ScaleStraight", spec := "scaleStraight", unfollowed := true, recurses := true, named := ["tithe/api.ErrNone", "tithe/api.ErrScale", "tithe/api.ErrFrac", "tithe/api.ErrMany", "tithe/api.ErrZero", "tithe/api.ErrRange"], apart := false, laid := [("tithe/api.ErrRange", laid_tithe_api_ErrRange), ("tithe/api.ErrZero", laid_tithe_api_ErrZero), ("tithe/api.ErrFrac", laid_tithe_api_ErrFrac), ("tithe/api.ErrScale", laid_tithe_api_ErrScale), ("tithe/api.ErrMany", laid_tithe_api_ErrMany), ("tithe/api.ErrNone", laid_tithe_api_ErrNone)] }
def ScaleStraightSaid : Prop := scaleStraightRow.holds Tryd.pinned (OpenSpec.ofChange scaleStraightSpec)

/-- ITS FALSE NEIGHBOUR: 'it returns false'. Refute it at one input. -/
def scaleStraightWrong : ChangeSpec := { name := "scaleStraight", fn := fun _ => fun
  | [d1, d2, d3] => { results := [.lit (.bool false)], args := [d1, d2, d3] }
  | _ => none }
def ScaleStraightWrongFalsely : Prop := scaleStraightRow.holds Tryd.pinned (OpenSpec.ofChange scaleStraightWrong)

/-- 'tithelaw15.ScaleFinds': WHATEVER THE INPUT: true; the input reads as it did. -/
def scaleFindsSpec : ChangeSpec := { name := "scaleFinds", fn := fun _ => fun
  | [d1, d2, d3] => { results := [.lit (.bool true)], args := [d1, d2, d3] }
  | _ => none }
def scaleFindsRow : OpenClaim := { program := "ytaoecddmbhfnmaadoor", sum := "60c1bb88426c10f4f807f3e23a7009efc05eb6cb058b7f419158f49a526edb95", func := "tithe/tithelaw15.ScaleFinds", spec := "scaleFinds", unfollowed := true, recurses := true, named := ["tithe/api.ErrNone", "tithe/api.ErrScale", "tithe/api.ErrFrac", "tithe/api.ErrMany", "tithe/api.ErrZero", "tithe/api.ErrRange"], apart := false, laid := [("tithe/api.ErrRange", laid_tithe_api_ErrRange), ("tithe/api.ErrZero", laid_tithe_api_ErrZero), ("tithe/api.ErrFrac", laid_tithe_api_ErrFrac), ("tithe/api.ErrScale", laid_tithe_api_ErrScale), ("tithe/api.ErrMany", laid_tithe_api_ErrMany), ("tithe/api.ErrNone", laid_tithe_api_ErrNone)] }
def ScaleFindsSaid : Prop := scaleFindsRow.holds Tryd.pinned (OpenSpec.ofChange scaleFindsSpec)

/-- ITS FALSE NEIGHBOUR: 'it returns false'. Refute it at one input. -/
def scaleFindsWrong : ChangeSpec := { name := "scaleFinds", fn := fun _ => fun
  | [d1, d2, d3] => { results := [.lit (.bool false)], args := [d1, d2, d3] }
  | _ => none }
def ScaleFindsWrongFalsely : Prop := scaleFindsRow.holds Tryd.pinned (OpenSpec.ofChange scaleFindsWrong)

/-- 'tithelaw15.ScaleRises': WHATEVER THE INPUT: true; the input reads as it did. -/
def scaleRisesSpec : ChangeSpec := { name := "scaleRises", fn := fun _ => fun
  | [d1, d2, d3] => { results := [.lit (.bool true)], args := [d1, d2, d3] }
  | _ => none }
def scaleRisesRow : OpenClaim := { program := "ytaoecddmbhfnmaadoor", sum := "60c1bb88426c10f4f807f3e23a7009efc05eb6cb058b7f419158f49a526edb95", func := "tithe/tithelaw15.ScaleRises", spec := "scaleRises", unfollowed := true, recurses := true, named := ["tithe/api.ErrNone", "tithe/api.ErrScale", "tithe/api.ErrFrac", "tithe/api.ErrMany", "tithe/api.ErrZero", "tithe/api.ErrRange"], apart := false, laid := [("tithe/api.ErrRange", laid_tithe_api_ErrRange), ("tithe/api.ErrZero", laid_tithe_api_ErrZero), ("tithe/api.ErrFrac", laid_tithe_api_ErrFrac), ("tithe/api.ErrScale", laid_tithe_api_ErrScale), ("tithe/api.ErrMany", laid_tithe_api_ErrMany), ("tithe/api.ErrNone", laid_tithe_api_ErrNone)] }
def ScaleRisesSaid : Prop := scaleRisesRow.holds Tryd.pinned (OpenSpec.ofChange scaleRisesSpec)

/-- ITS FALSE NEIGHBOUR: 'it returns false'. Refute it at one input. -/
def scaleRisesWrong : ChangeSpec := { name := "scaleRises", fn := fun _ => fun
  | [d1, d2, d3] => { results := [.lit (.bool false)], args := [d1, d2, d3] }
  | _ => none }
def ScaleRisesWrongFalsely : Prop := scaleRisesRow.holds Tryd.pinned (OpenSpec.ofChange scaleRisesWrong)

/-- 'tithelaw15.ScaleSums': WHATEVER THE INPUT: true; the input reads as it did. -/
def scaleSumsSpec : ChangeSpec := { name := "scaleSums", fn := fun _ => fun
  | [d1, d2] => { results := [.lit (.bool true)], args := [d1, d2] }
  | _ => none }
def scaleSumsRow : OpenClaim := { program := "ytaoecddmbhfnmaadoor", sum := "60c1bb88426c10f4f807f3e23a7009efc05eb6cb058b7f419158f49a526edb95", func := "tithe/tithelaw15.ScaleSums", spec := "scaleSums", unfollowed := true, recurses := true, named := ["tithe/api.ErrNone", "tithe/api.ErrScale", "tithe/api.ErrFrac", "tithe/api.ErrMany", "tithe/api.ErrZero", "tithe/api.ErrRange"], apart := false, laid := [("tithe/api.ErrRange", laid_tithe_api_ErrRange), ("tithe/api.ErrZero", laid_tithe_api_ErrZero), ("tithe/api.ErrFrac", laid_tithe_api_ErrFrac), ("tithe/api.ErrScale", laid_tithe_api_ErrScale), ("tithe/api.ErrMany", laid_tithe_api_ErrMany), ("tithe/api.ErrNone", laid_tithe_api_ErrNone)] }
def ScaleSumsSaid : Prop := scaleSumsRow.holds Tryd.pinned (OpenSpec.ofChange scaleSumsSpec)

/-- ITS FALSE NEIGHBOUR: 'it returns false'. Refute it at one input. -/
def scaleSumsWrong : ChangeSpec := { name := "scaleSums", fn := fun _ => fun
  | [d1, d2] => { results := [.lit (.bool false)], args := [d1, d2] }
  | _ => none }
def ScaleSumsWrongFalsely : Prop := scaleSumsRow.holds Tryd.pinned (OpenSpec.ofChange scaleSumsWrong)

/-- 'tithelaw15.ScaleTops': WHATEVER THE INPUT: true; the input reads as it did. -/
def scaleTopsSpec : ChangeSpec := { name := "scaleTops", fn := fun _ => fun
  | [d1, d2] => { results := [.lit (.bool true)], args := [d1, d2] }
  | _ => none }
def scaleTopsRow : OpenClaim := { program := "ytaoecddmbhfnmaadoor", sum := "60c1bb88426c10f4f807f3e23a7009efc05eb6cb058b7f419158f49a526edb95", func := "tithe/tithelaw15.ScaleTops", spec := "scaleTops", unfollowed := true, recurses := true, named := ["tithe/api.ErrNone", "tithe/api.ErrScale", "tithe/api.ErrFrac", "tithe/api.ErrMany", "tithe/api.ErrZero", "tithe/api.ErrRange"], apart := false, laid := [("tithe/api.ErrRange", laid_tithe_api_ErrRange), ("tithe/api.ErrZero", laid_tithe_api_ErrZero), ("tithe/api.ErrFrac", laid_tithe_api_ErrFrac), ("tithe/api.ErrScale", laid_tithe_api_ErrScale), ("tithe/api.ErrMany", laid_tithe_api_ErrMany), ("tithe/api.ErrNone", laid_tithe_api_ErrNone)] }
def ScaleTopsSaid : Prop := scaleTopsRow.holds Tryd.pinned (OpenSpec.ofChange scaleTopsSpec)

/-- ITS FALSE NEIGHBOUR: 'it returns false'. Refute it at one input. -/
def scaleTopsWrong : ChangeSpec := { name := "scaleTops", fn := fun _ => fun
  | [d1, d2] => { results := [.lit (.bool false)], args := [d1, d2] }
  | _ => none }
def ScaleTopsWrongFalsely : Prop := scaleTopsRow.holds Tryd.pinned (OpenSpec.ofChange scaleTopsWrong)

/-- 'tithelaw15.ScaleOwn': WHATEVER THE INPUT: true; the input reads as it did. -/
def scaleOwnSpec : ChangeSpec := { name := "scaleOwn", fn := fun _ => fun
  | [d1, d2, d3, d4] => { results := [.lit (.bool true)], args := [d1, d2, d3, d4] }
  | _ => none }
def scaleOwnRow : OpenClaim := { program := "ytaoecddmbhfnmaadoor", sum := "60c1bb88426c10f4f807f3e23a7009efc05eb6cb058b7f419158f49a526edb95", func := "tithe/tithelaw15.ScaleOwn", spec := "scaleOwn", unfollowed := true, recurses := true, named := ["tithe/api.ErrNone", "tithe/api.ErrScale", "tithe/api.ErrFrac", "tithe/api.ErrMany", "tithe/api.ErrZero", "tithe/api.ErrRange"], apart := false, laid := [("tithe/api.ErrRange", laid_tithe_api_ErrRange), ("tithe/api.ErrZero", laid_tithe_api_ErrZero), ("tithe/api.ErrFrac", laid_tithe_api_ErrFrac), ("tithe/api.ErrScale", laid_tithe_api_ErrScale), ("tithe/api.ErrMany", laid_tithe_api_ErrMany), ("tithe/api.ErrNone", laid_tithe_api_ErrNone)] }
def ScaleOwnSaid : Prop := scaleOwnRow.holds Tryd.pinned (OpenSpec.ofChange scaleOwnSpec)

/-- ITS FALSE NEIGHBOUR: 'it returns false'. Refute it at one input. -/
def scaleOwnWrong : ChangeSpec := { name := "scaleOwn", fn := fun _ => fun
  | [d1, d2, d3, d4] => { results := [.lit (.bool false)], args := [d1, d2, d3, d4] }
  | _ => none }
def ScaleOwnWrongFalsely : Prop := scaleOwnRow.holds Tryd.pinned (OpenSpec.ofChange scaleOwnWrong)

/- THE SECOND FORM. 'bulk': how many values and letters a reading holds, each counted each time it is reached (what is shared counts as often as it is met; a slice's spare places count too). A statement '..UptoSaid' is the law's where the arguments, and the package variables that the reading takes, are together of bulk at most 1048576: NARROWER than '..Said'. Prove '..Said' where nothing that the law and all that it calls make is longer than what came in: it says more and counts as full. Else prove '..UptoSaid'. A law counts once. -/
mutual
def uptoBulk {H : Type} : DataW H → Nat
  | .lit (.string bytes) => bytes.length + 1
  | .lit _ => 1
  | .nil => 1
  | .ptr d => uptoBulk d + 1
  | .slice elems spare => uptoBulkAll elems + uptoBulkAll spare + 1
  | .agg parts => uptoBulkAll parts + 1
  | .iface _ d => uptoBulk d + 1
  | .map entries => uptoBulkEntries entries + 1
  | .held _ => 1
def uptoBulkAll {H : Type} : List (DataW H) → Nat
  | [] => 0
  | d :: r => uptoBulk d + uptoBulkAll r
def uptoBulkEntries {H : Type} : List (Lit × DataW H) → Nat
  | [] => 0
  | x :: r => uptoBulkEntry x + uptoBulkEntries r
def uptoBulkEntry {H : Type} : Lit × DataW H → Nat
  | (.string bytes, d) => bytes.length + uptoBulk d + 1
  | (_, d) => uptoBulk d + 1
 end
def uptoSmall : (H : Type) → List (DataW H) → Bool := fun _ ds => decide (uptoBulkAll ds ≤ 1048576)
def OpenSpec.upto (s : _root_.Go.ChangeSpec) : _root_.Go.OpenSpec := { _root_.Go.OpenSpec.ofChange s with cond := some uptoSmall }

/-- 'tithelaw15.ScaleStraight', WHERE WHAT IT READS IS OF BULK AT MOST 1048576: true; the input reads as it did. -/
def scaleStraightUptoRow : OpenClaim := { program := "ytaoecddmbhfnmaadoor", sum := "60c1bb88426c10f4f807f3e23a7009efc05eb6cb058b7f419158f49a526edb95", func := "tithe/tithelaw15.ScaleStraight", spec := "scaleStraight", unfollowed := true, recurses := true, named := ["tithe/api.ErrNone", "tithe/api.ErrScale", "tithe/api.ErrFrac", "tithe/api.ErrMany", "tithe/api.ErrZero", "tithe/api.ErrRange"], apart := false, laid := [("tithe/api.ErrRange", laid_tithe_api_ErrRange), ("tithe/api.ErrZero", laid_tithe_api_ErrZero), ("tithe/api.ErrFrac", laid_tithe_api_ErrFrac), ("tithe/api.ErrScale", laid_tithe_api_ErrScale), ("tithe/api.ErrMany", laid_tithe_api_ErrMany), ("tithe/api.ErrNone", laid_tithe_api_ErrNone)], narrowed := true }
def ScaleStraightUptoSaid : Prop := scaleStraightUptoRow.holds Tryd.pinned (OpenSpec.upto scaleStraightSpec)

/-- 'tithelaw15.ScaleFinds', WHERE WHAT IT READS IS OF BULK AT MOST 1048576: true; the input reads as it did. -/
def scaleFindsUptoRow : OpenClaim := { program := "ytaoecddmbhfnmaadoor", sum := "60c1bb88426c10f4f807f3e23a7009efc05eb6cb058b7f419158f49a526edb95", func := "tithe/tithelaw15.ScaleFinds", spec := "scaleFinds", unfollowed := true, recurses := true, named := ["tithe/api.ErrNone", "tithe/api.ErrScale", "tithe/api.ErrFrac", "tithe/api.ErrMany", "tithe/api.ErrZero", "tithe/api.ErrRange"], apart := false, laid := [("tithe/api.ErrRange", laid_tithe_api_ErrRange), ("tithe/api.ErrZero", laid_tithe_api_ErrZero), ("tithe/api.ErrFrac", laid_tithe_api_ErrFrac), ("tithe/api.ErrScale", laid_tithe_api_ErrScale), ("tithe/api.ErrMany", laid_tithe_api_ErrMany), ("tithe/api.ErrNone", laid_tithe_api_ErrNone)], narrowed := true }
def ScaleFindsUptoSaid : Prop := scaleFindsUptoRow.holds Tryd.pinned (OpenSpec.upto scaleFindsSpec)

/-- 'tithelaw15.ScaleRises', WHERE WHAT IT READS IS OF BULK AT MOST 1048576: true; the input reads as it did. -/
def scaleRisesUptoRow : OpenClaim := { program := "ytaoecddmbhfnmaadoor", sum := "60c1bb88426c10f4f807f3e23a7009efc05eb6cb058b7f419158f49a526edb95", func := "tithe/tithelaw15.ScaleRises", spec := "scaleRises", unfollowed := true, recurses := true, named := ["tithe/api.ErrNone", "tithe/api.ErrScale", "tithe/api.ErrFrac", "tithe/api.ErrMany", "tithe/api.ErrZero", "tithe/api.ErrRange"], apart := false, laid := [("tithe/api.ErrRange", laid_tithe_api_ErrRange), ("tithe/api.ErrZero", laid_tithe_api_ErrZero), ("tithe/api.ErrFrac", laid_tithe_api_ErrFrac), ("tithe/api.ErrScale", laid_tithe_api_ErrScale), ("tithe/api.ErrMany", laid_tithe_api_ErrMany), ("tithe/api.ErrNone", laid_tithe_api_ErrNone)], narrowed := true }
def ScaleRisesUptoSaid : Prop := scaleRisesUptoRow.holds Tryd.pinned (OpenSpec.upto scaleRisesSpec)

/-- 'tithelaw15.ScaleSums', WHERE WHAT IT READS IS OF BULK AT MOST 1048576: true; the input reads as it did. -/
def scaleSumsUptoRow : OpenClaim := { program := "ytaoecddmbhfnmaadoor", sum := "60c1bb88426c10f4f807f3e23a7009efc05eb6cb058b7f419158f49a526edb95", func := "tithe/tithelaw15.ScaleSums", spec := "scaleSums", unfollowed := true, recurses := true, named := ["tithe/api.ErrNone", "tithe/api.ErrScale", "tithe/api.ErrFrac", "tithe/api.ErrMany", "tithe/api.ErrZero", "tithe/api.ErrRange"], apart := false, laid := [("tithe/api.ErrRange", laid_tithe_api_ErrRange), ("tithe/api.ErrZero", laid_tithe_api_ErrZero), ("tithe/api.ErrFrac", laid_tithe_api_ErrFrac), ("tithe/api.ErrScale", laid_tithe_api_ErrScale), ("tithe/api.ErrMany", laid_tithe_api_ErrMany), ("tithe/api.ErrNone", laid_tithe_api_ErrNone)], narrowed := true }
def ScaleSumsUptoSaid : Prop := scaleSumsUptoRow.holds Tryd.pinned (OpenSpec.upto scaleSumsSpec)

/-- 'tithelaw15.ScaleTops', WHERE WHAT IT READS IS OF BULK AT MOST 1048576: true; the input reads as it did. -/
def scaleTopsUptoRow : OpenClaim := { program := "ytaoecddmbhfnmaadoor", sum := "60c1bb88426c10f4f807f3e23a7009efc05eb6cb058b7f419158f49a526edb95", func := "tithe/tithelaw15.ScaleTops", spec := "scaleTops", unfollowed := true, recurses := true, named := ["tithe/api.ErrNone", "tithe/api.ErrScale", "tithe/api.ErrFrac", "tithe/api.ErrMany", "tithe/api.ErrZero", "tithe/api.ErrRange"], apart := false, laid := [("tithe/api.ErrRange", laid_tithe_api_ErrRange), ("tithe/api.ErrZero", laid_tithe_api_ErrZero), ("tithe/api.ErrFrac", laid_tithe_api_ErrFrac), ("tithe/api.ErrScale", laid_tithe_api_ErrScale), ("tithe/api.ErrMany", laid_tithe_api_ErrMany), ("tithe/api.ErrNone", laid_tithe_api_ErrNone)], narrowed := true }
def ScaleTopsUptoSaid : Prop := scaleTopsUptoRow.holds Tryd.pinned (OpenSpec.upto scaleTopsSpec)

/-- 'tithelaw15.ScaleOwn', WHERE WHAT IT READS IS OF BULK AT MOST 1048576: true; the input reads as it did. -/
def scaleOwnUptoRow : OpenClaim := { program := "ytaoecddmbhfnmaadoor", sum := "60c1bb88426c10f4f807f3e23a7009efc05eb6cb058b7f419158f49a526edb95", func := "tithe/tithelaw15.ScaleOwn", spec := "scaleOwn", unfollowed := true, recurses := true, named := ["tithe/api.ErrNone", "tithe/api.ErrScale", "tithe/api.ErrFrac", "tithe/api.ErrMany", "tithe/api.ErrZero", "tithe/api.ErrRange"], apart := false, laid := [("tithe/api.ErrRange", laid_tithe_api_ErrRange), ("tithe/api.ErrZero", laid_tithe_api_ErrZero), ("tithe/api.ErrFrac", laid_tithe_api_ErrFrac), ("tithe/api.ErrScale", laid_tithe_api_ErrScale), ("tithe/api.ErrMany", laid_tithe_api_ErrMany), ("tithe/api.ErrNone", laid_tithe_api_ErrNone)], narrowed := true }
def ScaleOwnUptoSaid : Prop := scaleOwnUptoRow.holds Tryd.pinned (OpenSpec.upto scaleOwnSpec)

end Rows
end Go.Proofs.YtaoecddmbhfnmaaDoor
