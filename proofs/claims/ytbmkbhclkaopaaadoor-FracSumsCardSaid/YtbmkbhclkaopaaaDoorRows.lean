/-
  NARROWER THAN 'FOR EVERY INPUT', by the rows' own cells (each row's printed sentence says how): FracTells: laid · FracField: laid · FracOrder: laid · FracWhole: laid · FracBack: laid · FracSums: laid.
  DERIVED. THE GIVEN ROWS OF THIS SEAT. 6 by the template 'for every input the law returns true; each argument reads behind the call as it read before'; 0 by the template 'total and deterministic' (their statements: YtbmkbhclkaopaaaDoorTotals.lean).
  GIVEN WITH THE SEED: the statements are not yours to turn. If you find one false, say at which input.
  Laid BY PROGRAM, IN A SANDBOX (cutbox-rows.mjs): the forced cells as the released guide's own fill.sh prints them over the translation 97077ac7244a6fc1… (all of the seat's roots in one cut). By AI agents, Wed Nov 11 2026. No macro, syntax, notation, axiom, sorry.
-/
import Derived.Test.YtbmkbhclkaopaaaDoorChecked
import GoSem.Claim
import GoSem.ClaimJoined
import GoSem.ClaimMapViews
import Derived.JoinedTies
import Derived.KernelRfl
namespace Go.Proofs.YtbmkbhclkaopaaaDoor
/- THE CELL 'sum', in the pinned program and in every row, IS THE sha256 OF THE DUMP (.gsa) THAT YtbmkbhclkaopaaaDoorProg.lean LOADS. Nothing in Lean hashes anything: it is a label: what it is worth is what the hold of that sum in a sandbox is worth. -/
noncomputable def Tryd.pinned : Pinned := { name := "ytbmkbhclkaopaaadoor", sum := "97077ac7244a6fc1cfd3309b8f0a7361b8bec3028ad7143a3e8e30bac6c57160", checked := Tryd.checked }
namespace Rows
def none {H : Type} : Left H := { results := [], args := [] }

/- WHAT THE LISTED PACKAGE-LEVEL VARIABLES READ AS WHEN THE CALL BEGINS. Each datum BY PROGRAM (the guide's laid-datum.mjs) off the statement by which the dump's own 'gosem.cut.vars' lays the variable. In a bare row this is a premise. The card (YtbmkbhclkaopaaaDoorCards.lean) ties it to the program's text. -/
def laid_tithe_api_ErrRange {H : Type} : DataW H := .iface "*errors.errorString" (.ptr (.agg [.lit (.string [97, 32, 110, 117, 109, 98, 101, 114, 32, 98, 101, 121, 111, 110, 100, 32, 116, 104, 101, 32, 114, 97, 110, 103, 101])]))
def laid_tithe_api_ErrZero {H : Type} : DataW H := .iface "*errors.errorString" (.ptr (.agg [.lit (.string [100, 105, 118, 105, 100, 101, 100, 32, 98, 121, 32, 122, 101, 114, 111])]))
def laid_tithe_api_ErrFrac {H : Type} : DataW H := .iface "*errors.errorString" (.ptr (.agg [.lit (.string [110, 111, 32, 102, 114, 97, 99, 116, 105, 111, 110])]))

/-- 'tithelaw1.FracTells': WHATEVER THE INPUT: true; the input reads as it did. -/
def fracTellsSpec : ChangeSpec := { name := "fracTells", fn := fun _ => fun
  | [d1, d2] => { results := [.lit (.bool true)], args := [d1, d2] }
  | _ => none }
def fracTellsRow : OpenClaim := { program := "ytbmkbhclkaopaaadoor", sum := "97077ac7244a6fc1cfd3309b8f0a7361b8bec3028ad7143a3e8e30bac6c57160", func := "tithe/tithelaw1.FracTells", spec := "fracTells", unfollowed := true, recurses := true, named := ["tithe/api.ErrZero", "tithe/api.ErrRange", "tithe/api.ErrFrac"], apart := false, laid := [("tithe/api.ErrRange", laid_tithe_api_ErrRange), ("tithe/api.ErrZero", laid_tithe_api_ErrZero), ("tithe/api.ErrFrac", laid_tithe_api_ErrFrac)] }
def FracTellsSaid : Prop := fracTellsRow.holds Tryd.pinned (OpenSpec.ofChange fracTellsSpec)

/-- ITS FALSE NEIGHBOUR: 'it returns false'. Refute it at one input. -/
def fracTellsWrong : ChangeSpec := { name := "fracTells", fn := fun _ => fun
  | [d1, d2] => { results := [.lit (.bool false)], args := [d1, d2] }
  | _ => none }
def FracTellsWrongFalsely : Prop := fracTellsRow.holds Tryd.pinned (OpenSpec.ofChange fracTellsWrong)

/-- 'tithelaw1.FracField': WHATEVER THE INPUT: true; the input reads as it did. -/
def fracFieldSpec : ChangeSpec := { name := "fracField", fn := fun _ => fun
  | [d1, d2, d3] => { results := [.lit (.bool true)], args := [d1, d2, d3] }
  | _ => none }
def fracFieldRow : OpenClaim := { program := "ytbmkbhclkaopaaadoor", sum := "97077ac7244a6fc1cfd3309b8f0a7361b8bec3028ad7143a3e8e30bac6c57160", func := "tithe/tithelaw1.FracField", spec := "fracField", unfollowed := true, recurses := true, named := ["tithe/api.ErrZero", "tithe/api.ErrRange", "tithe/api.ErrFrac"], apart := false, laid := [("tithe/api.ErrRange", laid_tithe_api_ErrRange), ("tithe/api.ErrZero", laid_tithe_api_ErrZero), ("tithe/api.ErrFrac", laid_tithe_api_ErrFrac)] }
def FracFieldSaid : Prop := fracFieldRow.holds Tryd.pinned (OpenSpec.ofChange fracFieldSpec)

/-- ITS FALSE NEIGHBOUR: 'it returns false'. Refute it at one input. -/
def fracFieldWrong : ChangeSpec := { name := "fracField", fn := fun _ => fun
  | [d1, d2, d3] => { results := [.lit (.bool false)], args := [d1, d2, d3] }
  | _ => none }
def FracFieldWrongFalsely : Prop := fracFieldRow.holds Tryd.pinned (OpenSpec.ofChange fracFieldWrong)

/-- 'tithelaw1.FracOrder': WHATEVER THE INPUT: true; the input reads as it did. -/
def fracOrderSpec : ChangeSpec := { name := "fracOrder", fn := fun _ => fun
  | [d1, d2, d3] => { results := [.lit (.bool true)], args := [d1, d2, d3] }
  | _ => none }
def fracOrderRow : OpenClaim := { program := "ytbmkbhclkaopaaadoor", sum := "97077ac7244a6fc1cfd3309b8f0a7361b8bec3028ad7143a3e8e30bac6c57160", func := "tithe/tithelaw1.FracOrder", spec := "fracOrder", unfollowed := true, recurses := true, named := ["tithe/api.ErrZero", "tithe/api.ErrRange", "tithe/api.ErrFrac"], apart := false, laid := [("tithe/api.ErrRange", laid_tithe_api_ErrRange), ("tithe/api.ErrZero", laid_tithe_api_ErrZero), ("tithe/api.ErrFrac", laid_tithe_api_ErrFrac)] }
def FracOrderSaid : Prop := fracOrderRow.holds Tryd.pinned (OpenSpec.ofChange fracOrderSpec)

/-- ITS FALSE NEIGHBOUR: 'it returns false'. Refute it at one input. -/
def fracOrderWrong : ChangeSpec := { name := "fracOrder", fn := fun _ => fun
  | [d1, d2, d3] => { results := [.lit (.bool false)], args := [d1, d2, d3] }
  | _ => none }
def FracOrderWrongFalsely : Prop := fracOrderRow.holds Tryd.pinned (OpenSpec.ofChange fracOrderWrong)

/-- 'tithelaw1.FracWhole': WHATEVER THE INPUT: true; the input reads as it did. -/
def fracWholeSpec : ChangeSpec := { name := "fracWhole", fn := fun _ => fun
  | [d] => { results := [.lit (.bool true)], args := [d] }
  | _ => none }
def fracWholeRow : OpenClaim := { program := "ytbmkbhclkaopaaadoor", sum := "97077ac7244a6fc1cfd3309b8f0a7361b8bec3028ad7143a3e8e30bac6c57160", func := "tithe/tithelaw1.FracWhole", spec := "fracWhole", unfollowed := true, recurses := true, named := ["tithe/api.ErrZero", "tithe/api.ErrRange", "tithe/api.ErrFrac"], apart := false, laid := [("tithe/api.ErrRange", laid_tithe_api_ErrRange), ("tithe/api.ErrZero", laid_tithe_api_ErrZero), ("tithe/api.ErrFrac", laid_tithe_api_ErrFrac)] }
def FracWholeSaid : Prop := fracWholeRow.holds Tryd.pinned (OpenSpec.ofChange fracWholeSpec)

/-- ITS FALSE NEIGHBOUR: 'it returns false'. Refute it at one input. -/
def fracWholeWrong : ChangeSpec := { name := "fracWhole", fn := fun _ => fun
  | [d] => { results := [.lit (.bool false)], args := [d] }
  | _ => none }
def FracWholeWrongFalsely : Prop := fracWholeRow.holds Tryd.pinned (OpenSpec.ofChange fracWholeWrong)

/-- 'tithelaw1.FracBack': WHATEVER THE INPUT: true; the input reads as it did. -/
def fracBackSpec : ChangeSpec := { name := "fracBack", fn := fun _ => fun
  | [d1, d2] => { results := [.lit (.bool true)], args := [d1, d2] }
  | _ => none }
def fracBackRow : OpenClaim := { program := "ytbmkbhclkaopaaadoor", sum := "97077ac7244a6fc1cfd3309b8f0a7361b8bec3028ad7143a3e8e30bac6c57160", func := "tithe/tithelaw1.FracBack", spec := "fracBack", unfollowed := true, recurses := true, named := ["tithe/api.ErrZero", "tithe/api.ErrRange", "tithe/api.ErrFrac"], apart := false, laid := [("tithe/api.ErrRange", laid_tithe_api_ErrRange), ("tithe/api.ErrZero", laid_tithe_api_ErrZero), ("tithe/api.ErrFrac", laid_tithe_api_ErrFrac)] }
def FracBackSaid : Prop := fracBackRow.holds Tryd.pinned (OpenSpec.ofChange fracBackSpec)

/-- ITS FALSE NEIGHBOUR: 'it returns false'. Refute it at one input. -/
def fracBackWrong : ChangeSpec := { name := "fracBack", fn := fun _ => fun
  | [d1, d2] => { results := [.lit (.bool false)], args := [d1, d2] }
  | _ => none }
def FracBackWrongFalsely : Prop := fracBackRow.holds Tryd.pinned (OpenSpec.ofChange fracBackWrong)

/-- 'tithelaw1.FracSums': WHATEVER THE INPUT: true; the input reads as it did. -/
def fracSumsSpec : ChangeSpec := { name := "fracSums", fn := fun _ => fun
  | [d1, d2] => { results := [.lit (.bool true)], args := [d1, d2] }
  | _ => none }
def fracSumsRow : OpenClaim := { program := "ytbmkbhclkaopaaadoor", sum := "97077ac7244a6fc1cfd3309b8f0a7361b8bec3028ad7143a3e8e30bac6c57160", func := "tithe/tithelaw1.FracSums", spec := "fracSums", unfollowed := true, recurses := true, named := ["tithe/api.ErrZero", "tithe/api.ErrRange", "tithe/api.ErrFrac"], apart := false, laid := [("tithe/api.ErrRange", laid_tithe_api_ErrRange), ("tithe/api.ErrZero", laid_tithe_api_ErrZero), ("tithe/api.ErrFrac", laid_tithe_api_ErrFrac)] }
def FracSumsSaid : Prop := fracSumsRow.holds Tryd.pinned (OpenSpec.ofChange fracSumsSpec)

/-- ITS FALSE NEIGHBOUR: 'it returns false'. Refute it at one input. -/
def fracSumsWrong : ChangeSpec := { name := "fracSums", fn := fun _ => fun
  | [d1, d2] => { results := [.lit (.bool false)], args := [d1, d2] }
  | _ => none }
def FracSumsWrongFalsely : Prop := fracSumsRow.holds Tryd.pinned (OpenSpec.ofChange fracSumsWrong)

/- THE SECOND FORM. 'bulk': how many values and letters a reading holds, each counted each time it is reached (what is shared counts as often as it is met; a slice's spare places count too). A statement '..UptoSaid' is the law's where the arguments, and the package variables that the reading takes, are together of bulk at most 1048576: NARROWER than '..Said'. Prove '..Said' where nothing that the law and all that it calls make is longer than what came in: it says more and counts as full. Else prove '..UptoSaid'. A law counts once. -/
mutual
def uptoBulk {H : Type} : DataW H → Nat
  | .lit (.string bytes) => bytes.length + 1
  | .lit _ => 1
  | .nil => 1
  | .ptr d => uptoBulk d + 1
  | .slice elems spare => uptoBulkAll elems + uptoBulkAll spare + 1
  | .agg parts => uptoBulkAll parts + 1
  | .iface _ d => uptoBulk d + 1
  | .map entries => uptoBulkEntries entries + 1
  | .held _ => 1
def uptoBulkAll {H : Type} : List (DataW H) → Nat
  | [] => 0
  | d :: r => uptoBulk d + uptoBulkAll r
def uptoBulkEntries {H : Type} : List (Lit × DataW H) → Nat
  | [] => 0
  | x :: r => uptoBulkEntry x + uptoBulkEntries r
def uptoBulkEntry {H : Type} : Lit × DataW H → Nat
  | (.string bytes, d) => bytes.length + uptoBulk d + 1
  | (_, d) => uptoBulk d + 1
 end
def uptoSmall : (H : Type) → List (DataW H) → Bool := fun _ ds => decide (uptoBulkAll ds ≤ 1048576)
def OpenSpec.upto (s : _root_.Go.ChangeSpec) : _root_.Go.OpenSpec := { _root_.Go.OpenSpec.ofChange s with cond := some uptoSmall }

/-- 'tithelaw1.FracTells', WHERE WHAT IT READS IS OF BULK AT MOST 1048576: true; the input reads as it did. -/
def fracTellsUptoRow : OpenClaim := { program := "ytbmkbhclkaopaaadoor", sum := "97077ac7244a6fc1cfd3309b8f0a7361b8bec3028ad7143a3e8e30bac6c57160", func := "tithe/tithelaw1.FracTells", spec := "fracTells", unfollowed := true, recurses := true, named := ["tithe/api.ErrZero", "tithe/api.ErrRange", "tithe/api.ErrFrac"], apart := false, laid := [("tithe/api.ErrRange", laid_tithe_api_ErrRange), ("tithe/api.ErrZero", laid_tithe_api_ErrZero), ("tithe/api.ErrFrac", laid_tithe_api_ErrFrac)], narrowed := true }
def FracTellsUptoSaid : Prop := fracTellsUptoRow.holds Tryd.pinned (OpenSpec.upto fracTellsSpec)

/-- 'tithelaw1.FracField', WHERE WHAT IT READS IS OF BULK AT MOST 1048576: true; the input reads as it did. -/
def fracFieldUptoRow : OpenClaim := { program := "ytbmkbhclkaopaaadoor", sum := "97077ac7244a6fc1cfd3309b8f0a7361b8bec3028ad7143a3e8e30bac6c57160", func := "tithe/tithelaw1.FracField", spec := "fracField", unfollowed := true, recurses := true, named := ["tithe/api.ErrZero", "tithe/api.ErrRange", "tithe/api.ErrFrac"], apart := false, laid := [("tithe/api.ErrRange", laid_tithe_api_ErrRange), ("tithe/api.ErrZero", laid_tithe_api_ErrZero), ("tithe/api.ErrFrac", laid_tithe_api_ErrFrac)], narrowed := true }
def FracFieldUptoSaid : Prop := fracFieldUptoRow.holds Tryd.pinned (OpenSpec.upto fracFieldSpec)

/-- 'tithelaw1.FracOrder', WHERE WHAT IT READS IS OF BULK AT MOST 1048576: true; the input reads as it did. -/
def fracOrderUptoRow : OpenClaim := { program := "ytbmkbhclkaopaaadoor", sum := "97077ac7244a6fc1cfd3309b8f0a7361b8bec3028ad7143a3e8e30bac6c57160", func := "tithe/tithelaw1.FracOrder", spec := "fracOrder", unfollowed := true, recurses := true, named := ["tithe/api.ErrZero", "tithe/api.ErrRange", "tithe/api.ErrFrac"], apart := false, laid := [("tithe/api.ErrRange", laid_tithe_api_ErrRange), ("tithe/api.ErrZero", laid_tithe_api_ErrZero), ("tithe/api.ErrFrac", laid_tithe_api_ErrFrac)], narrowed := true }
def FracOrderUptoSaid : Prop := fracOrderUptoRow.holds Tryd.pinned (OpenSpec.upto fracOrderSpec)

/-- 'tithelaw1.FracWhole', WHERE WHAT IT READS IS OF BULK AT MOST 1048576: true; the input reads as it did. -/
def fracWholeUptoRow : OpenClaim := { program := "ytbmkbhclkaopaaadoor", sum := "97077ac7244a6fc1cfd3309b8f0a7361b8bec3028ad7143a3e8e30bac6c57160", func := "tithe/tithelaw1.FracWhole", spec := "fracWhole", unfollowed := true, recurses := true, named := ["tithe/api.ErrZero", "tithe/api.ErrRange", "tithe/api.ErrFrac"], apart := false, laid := [("tithe/api.ErrRange", laid_tithe_api_ErrRange), ("tithe/api.ErrZero", laid_tithe_api_ErrZero), ("tithe/api.ErrFrac", laid_tithe_api_ErrFrac)], narrowed := true }
def FracWholeUptoSaid : Prop := fracWholeUptoRow.holds Tryd.pinned (OpenSpec.upto fracWholeSpec)

/-- 'tithelaw1.FracBack', WHERE WHAT IT READS IS OF BULK AT MOST 1048576: true; the input reads as it did. -/
def fracBackUptoRow : OpenClaim := { program := "ytbmkbhclkaopaaadoor", sum := "97077ac7244a6fc1cfd3309b8f0a7361b8bec3028ad7143a3e8e30bac6c57160", func := "tithe/tithelaw1.FracBack", spec := "fracBack", unfollowed := true, recurses := true, named := ["tithe/api.ErrZero", "tithe/api.ErrRange", "tithe/api.ErrFrac"], apart := false, laid := [("tithe/api.ErrRange", laid_tithe_api_ErrRange), ("tithe/api.ErrZero", laid_tithe_api_ErrZero), ("tithe/api.ErrFrac", laid_tithe_api_ErrFrac)], narrowed := true }
def FracBackUptoSaid : Prop := fracBackUptoRow.holds Tryd.pinned (OpenSpec.upto fracBackSpec)

/-- 'tithelaw1.FracSums', WHERE WHAT IT READS IS OF BULK AT MOST 1048576: true; the input reads as it did. -/
def fracSumsUptoRow : OpenClaim := { program := "ytbmkbhclkaopaaadoor", sum := "97077ac7244a6fc1cfd3309b8f0a7361b8bec3028ad7143a3e8e30bac6c57160", func := "tithe/tithelaw1.FracSums", spec := "fracSums", unfollowed := true, recurses := true, named := ["tithe/api.ErrZero", "tithe/api.ErrRange", "tithe/api.ErrFrac"], apart := false, laid := [("tithe/api.ErrRange", laid_tithe_api_ErrRange), ("tithe/api.ErrZero", laid_tithe_api_ErrZero), ("tithe/api.ErrFrac", laid_tithe_api_ErrFrac)], narrowed := true }
def FracSumsUptoSaid : Prop := fracSumsUptoRow.holds Tryd.pinned (OpenSpec.upto fracSumsSpec)

end Rows
end Go.Proofs.YtbmkbhclkaopaaaDoor
