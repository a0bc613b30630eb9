/-
  NARROWER THAN 'FOR EVERY INPUT', by the rows' own cells (each row's printed sentence says how): BookAnyOrder: laid.
  DERIVED. THE GIVEN ROWS OF THIS SEAT. 1 by the template 'for every input the law returns true; each argument reads behind the call as it read before'; 0 by the template 'total and deterministic' (their statements: YtngckppnaflciaaDoorTotals.lean).
  GIVEN WITH THE SEED: the statements are not yours to turn. If you find one false, say at which input.
  Laid BY PROGRAM, IN A SANDBOX (cutbox-rows.mjs): the forced cells as the released guide's own fill.sh prints them over the translation 6d4ae803f4134ebd… (all of the seat's roots in one cut). By AI agents, Wed Nov 11 2026. No macro, syntax, notation, axiom, sorry.
-/
import Derived.Test.YtngckppnaflciaaDoorChecked
import GoSem.PinnedTables
import GoSem.Claim
import GoSem.ClaimJoined
import GoSem.ClaimMapViews
import Derived.JoinedTies
import Derived.KernelRfl
namespace Go.Proofs.YtngckppnaflciaaDoor
/- THE CELL 'sum', in the pinned program and in every row, IS THE sha256 OF THE DUMP (.gsa) THAT YtngckppnaflciaaDoorProg.lean LOADS. Nothing in Lean hashes anything: it is a label: what it is worth is what the hold of that sum in a sandbox is worth. -/
noncomputable def Tryd.pinned : Pinned := { name := "ytngckppnaflciaadoor", sum := "6d4ae803f4134ebdd4b65abec29068028000383144475707538f022aa84bff1a", checked := Tryd.checked }
namespace Rows
def none {H : Type} : Left H := { results := [], args := [] }

/- WHAT THE LISTED PACKAGE-LEVEL VARIABLES READ AS WHEN THE CALL BEGINS. Each datum BY PROGRAM (the guide's laid-datum.mjs) off the statement by which the dump's own 'gosem.cut.vars' lays the variable. In a bare row this is a premise. The card (YtngckppnaflciaaDoorCards.lean) ties it to the program's text. -/
def laid_unicode_utf8_acceptRanges {H : Type} : DataW H := .agg [.agg [.lit (.int .u8 128), .lit (.int .u8 191)], .agg [.lit (.int .u8 160), .lit (.int .u8 191)], .agg [.lit (.int .u8 128), .lit (.int .u8 159)], .agg [.lit (.int .u8 144), .lit (.int .u8 191)], .agg [.lit (.int .u8 128), .lit (.int .u8 143)], .agg [.lit (.int .u8 0), .lit (.int .u8 0)], .agg [.lit (.int .u8 0), .lit (.int .u8 0)], .agg [.lit (.int .u8 0), .lit (.int .u8 0)], .agg [.lit (.int .u8 0), .lit (.int .u8 0)], .agg [.lit (.int .u8 0), .lit (.int .u8 0)], .agg [.lit (.int .u8 0), .lit (.int .u8 0)], .agg [.lit (.int .u8 0), .lit (.int .u8 0)], .agg [.lit (.int .u8 0), .lit (.int .u8 0)], .agg [.lit (.int .u8 0), .lit (.int .u8 0)], .agg [.lit (.int .u8 0), .lit (.int .u8 0)], .agg [.lit (.int .u8 0), .lit (.int .u8 0)]]
def laid_tithe_api_ErrFrac {H : Type} : DataW H := .iface "*errors.errorString" (.ptr (.agg [.lit (.string [110, 111, 32, 102, 114, 97, 99, 116, 105, 111, 110])]))
def laid_tithe_api_ErrRound {H : Type} : DataW H := .iface "*errors.errorString" (.ptr (.agg [.lit (.string [110, 111, 32, 114, 111, 117, 110, 100, 105, 110, 103])]))
def laid_tithe_api_ErrDay {H : Type} : DataW H := .iface "*errors.errorString" (.ptr (.agg [.lit (.string [110, 111, 32, 100, 97, 121])]))
def laid_tithe_api_ErrSpan {H : Type} : DataW H := .iface "*errors.errorString" (.ptr (.agg [.lit (.string [110, 111, 32, 115, 112, 97, 110])]))
def laid_tithe_api_ErrName {H : Type} : DataW H := .iface "*errors.errorString" (.ptr (.agg [.lit (.string [110, 111, 32, 110, 97, 109, 101])]))
def laid_tithe_api_ErrKind {H : Type} : DataW H := .iface "*errors.errorString" (.ptr (.agg [.lit (.string [111, 102, 32, 97, 110, 111, 116, 104, 101, 114, 32, 107, 105, 110, 100])]))
def laid_tithe_api_ErrScale {H : Type} : DataW H := .iface "*errors.errorString" (.ptr (.agg [.lit (.string [110, 111, 32, 115, 99, 97, 108, 101])]))
def laid_tithe_api_ErrProv {H : Type} : DataW H := .iface "*errors.errorString" (.ptr (.agg [.lit (.string [110, 111, 32, 112, 114, 111, 118, 105, 115, 105, 111, 110])]))
def laid_tithe_api_ErrTwice {H : Type} : DataW H := .iface "*errors.errorString" (.ptr (.agg [.lit (.string [105, 116, 32, 105, 115, 32, 116, 104, 101, 114, 101, 32, 97, 108, 114, 101, 97, 100, 121])]))
def laid_tithe_api_ErrMany {H : Type} : DataW H := .iface "*errors.errorString" (.ptr (.agg [.lit (.string [116, 111, 111, 32, 109, 97, 110, 121])]))
def laid_tithe_api_ErrClosed {H : Type} : DataW H := .iface "*errors.errorString" (.ptr (.agg [.lit (.string [105, 116, 32, 105, 115, 32, 99, 108, 111, 115, 101, 100])]))
def laid_tithe_api_ErrLong {H : Type} : DataW H := .iface "*errors.errorString" (.ptr (.agg [.lit (.string [116, 111, 111, 32, 108, 111, 110, 103])]))
/-- One of Go's own tables, pinned by name: the form's constant. -/
def laid_unicode_utf8_first : DataW Unit := Go.Pinned.utf8First

/-- 'tithelaw8.BookAnyOrder': WHATEVER THE INPUT: true; the input reads as it did. -/
def bookAnyOrderSpec : ChangeSpec := { name := "bookAnyOrder", fn := fun _ => fun
  | [d1, d2, d3, d4] => { results := [.lit (.bool true)], args := [d1, d2, d3, d4] }
  | _ => none }
def bookAnyOrderRow : OpenClaim := { program := "ytngckppnaflciaadoor", sum := "6d4ae803f4134ebdd4b65abec29068028000383144475707538f022aa84bff1a", func := "tithe/tithelaw8.BookAnyOrder", spec := "bookAnyOrder", inPlace := ["internal/bytealg.CountString", "internal/bytealg.IndexByteString", "internal/bytealg.IndexString"], unfollowed := true, recurses := true, named := ["tithe/api.ErrTwice", "tithe/api.ErrClosed", "tithe/api.ErrMany", "tithe/api.ErrName", "tithe/api.ErrSpan", "tithe/api.ErrDay", "tithe/api.ErrProv", "tithe/api.ErrKind", "unicode/utf8.first", "unicode/utf8.acceptRanges", "internal/bytealg.MaxLen", "tithe/api.ErrFrac", "tithe/api.ErrScale", "tithe/api.ErrLong", "tithe/api.ErrRound"], apart := false, laid := [("unicode/utf8.acceptRanges", laid_unicode_utf8_acceptRanges), ("tithe/api.ErrFrac", laid_tithe_api_ErrFrac), ("tithe/api.ErrRound", laid_tithe_api_ErrRound), ("tithe/api.ErrDay", laid_tithe_api_ErrDay), ("tithe/api.ErrSpan", laid_tithe_api_ErrSpan), ("tithe/api.ErrName", laid_tithe_api_ErrName), ("tithe/api.ErrKind", laid_tithe_api_ErrKind), ("tithe/api.ErrScale", laid_tithe_api_ErrScale), ("tithe/api.ErrProv", laid_tithe_api_ErrProv), ("tithe/api.ErrTwice", laid_tithe_api_ErrTwice), ("tithe/api.ErrMany", laid_tithe_api_ErrMany), ("tithe/api.ErrClosed", laid_tithe_api_ErrClosed), ("tithe/api.ErrLong", laid_tithe_api_ErrLong), ("unicode/utf8.first", laid_unicode_utf8_first)] }
def BookAnyOrderSaid : Prop := bookAnyOrderRow.holds Tryd.pinned (OpenSpec.ofChange bookAnyOrderSpec)

/-- ITS FALSE NEIGHBOUR: 'it returns false'. Refute it at one input. -/
def bookAnyOrderWrong : ChangeSpec := { name := "bookAnyOrder", fn := fun _ => fun
  | [d1, d2, d3, d4] => { results := [.lit (.bool false)], args := [d1, d2, d3, d4] }
  | _ => none }
def BookAnyOrderWrongFalsely : Prop := bookAnyOrderRow.holds Tryd.pinned (OpenSpec.ofChange bookAnyOrderWrong)

/- THE SECOND FORM. 'bulk': how many values and letters a reading holds, each counted each time it is reached (what is shared counts as often as it is met; a slice's spare places count too). A statement '..UptoSaid' is the law's where the arguments, and the package variables that the reading takes, are together of bulk at most 1048576: NARROWER than '..Said'. Prove '..Said' where nothing that the law and all that it calls make is longer than what came in: it says more and counts as full. Else prove '..UptoSaid'. A law counts once. -/
mutual
def uptoBulk {H : Type} : DataW H → Nat
  | .lit (.string bytes) => bytes.length + 1
  | .lit _ => 1
  | .nil => 1
  | .ptr d => uptoBulk d + 1
  | .slice elems spare => uptoBulkAll elems + uptoBulkAll spare + 1
  | .agg parts => uptoBulkAll parts + 1
  | .iface _ d => uptoBulk d + 1
  | .map entries => uptoBulkEntries entries + 1
  | .held _ => 1
def uptoBulkAll {H : Type} : List (DataW H) → Nat
  | [] => 0
  | d :: r => uptoBulk d + uptoBulkAll r
def uptoBulkEntries {H : Type} : List (Lit × DataW H) → Nat
  | [] => 0
  | x :: r => uptoBulkEntry x + uptoBulkEntries r
def uptoBulkEntry {H : Type} : Lit × DataW H → Nat
  | (.string bytes, d) => bytes.length + uptoBulk d + 1
  | (_, d) => uptoBulk d + 1
 end
def uptoSmall : (H : Type) → List (DataW H) → Bool := fun _ ds => decide (uptoBulkAll ds ≤ 1048576)
def OpenSpec.upto (s : _root_.Go.ChangeSpec) : _root_.Go.OpenSpec := { _root_.Go.OpenSpec.ofChange s with cond := some uptoSmall }

/-- 'tithelaw8.BookAnyOrder', WHERE WHAT IT READS IS OF BULK AT MOST 1048576: true; the input reads as it did. -/
def bookAnyOrderUptoRow : OpenClaim := { program := "ytngckppnaflciaadoor", sum := "6d4ae803f4134ebdd4b65abec29068028000383144475707538f022aa84bff1a", func := "tithe/tithelaw8.BookAnyOrder", spec := "bookAnyOrder", inPlace := ["internal/bytealg.CountString", "internal/bytealg.IndexByteString", "internal/bytealg.IndexString"], unfollowed := true, recurses := true, named := ["tithe/api.ErrTwice", "tithe/api.ErrClosed", "tithe/api.ErrMany", "tithe/api.ErrName", "tithe/api.ErrSpan", "tithe/api.ErrDay", "tithe/api.ErrProv", "tithe/api.ErrKind", "unicode/utf8.first", "unicode/utf8.acceptRanges", "internal/bytealg.MaxLen", "tithe/api.ErrFrac", "tithe/api.ErrScale", "tithe/api.ErrLong", "tithe/api.ErrRound"], apart := false, laid := [("unicode/utf8.acceptRanges", laid_unicode_utf8_acceptRanges), ("tithe/api.ErrFrac", laid_tithe_api_ErrFrac), ("tithe/api.ErrRound", laid_tithe_api_ErrRound), ("tithe/api.ErrDay", laid_tithe_api_ErrDay), ("tithe/api.ErrSpan", laid_tithe_api_ErrSpan), ("tithe/api.ErrName", laid_tithe_api_ErrName), ("tithe/api.ErrKind", laid_tithe_api_ErrKind), ("tithe/api.ErrScale", laid_tithe_api_ErrScale), ("tithe/api.ErrProv", laid_tithe_api_ErrProv), ("tithe/api.ErrTwice", laid_tithe_api_ErrTwice), ("tithe/api.ErrMany", laid_tithe_api_ErrMany), ("tithe/api.ErrClosed", laid_tithe_api_ErrClosed), ("tithe/api.ErrLong", laid_tithe_api_ErrLong), ("unicode/utf8.first", laid_unicode_utf8_first)], narrowed := true }
def BookAnyOrderUptoSaid : Prop := bookAnyOrderUptoRow.holds Tryd.pinned (OpenSpec.upto bookAnyOrderSpec)

end Rows
end Go.Proofs.YtngckppnaflciaaDoor
