/-
  NARROWER THAN 'FOR EVERY INPUT', by the rows' own cells (each row's printed sentence says how): BootKept: laid · BootAnyOrder: laid · BootCircles: laid · BootEach: laid.
  DERIVED. THE GIVEN ROWS OF THIS SEAT. 4 by the template 'for every input the law returns true; each argument reads behind the call as it read before'; 0 by the template 'total and deterministic' (their statements: YtodlbfekoohpoaaDoorTotals.lean).
  GIVEN WITH THE SEED: the statements are not yours to turn. If you find one false, say at which input.
  Laid BY PROGRAM, IN A SANDBOX (cutbox-rows.mjs): the forced cells as the released guide's own fill.sh prints them over the translation 109e80808c4f521c… (all of the seat's roots in one cut). By AI agents, Wed Nov 11 2026. No macro, syntax, notation, axiom, sorry.
-/
import Derived.Test.YtodlbfekoohpoaaDoorChecked
import GoSem.PinnedTables
import GoSem.Claim
import GoSem.ClaimJoined
import GoSem.ClaimMapViews
import Derived.JoinedTies
import Derived.KernelRfl
namespace Go.Proofs.YtodlbfekoohpoaaDoor
/- THE CELL 'sum', in the pinned program and in every row, IS THE sha256 OF THE DUMP (.gsa) THAT YtodlbfekoohpoaaDoorProg.lean LOADS. Nothing in Lean hashes anything: it is a label: what it is worth is what the hold of that sum in a sandbox is worth. -/
noncomputable def Tryd.pinned : Pinned := { name := "ytodlbfekoohpoaadoor", sum := "109e80808c4f521c1ff309640dbaf18a63d682c246eb65e7627fe16cdfb75e47", checked := Tryd.checked }
namespace Rows
def none {H : Type} : Left H := { results := [], args := [] }

/- WHAT THE LISTED PACKAGE-LEVEL VARIABLES READ AS WHEN THE CALL BEGINS. Each datum BY PROGRAM (the guide's laid-datum.mjs) off the statement by which the dump's own 'gosem.cut.vars' lays the variable. In a bare row this is a premise. The card (YtodlbfekoohpoaaDoorCards.lean) ties it to the program's text. -/
def laid_unicode_utf8_acceptRanges {H : Type} : DataW H := .agg [.agg [.lit (.int .u8 128), .lit (.int .u8 191)], .agg [.lit (.int .u8 160), .lit (.int .u8 191)], .agg [.lit (.int .u8 128), .lit (.int .u8 159)], .agg [.lit (.int .u8 144), .lit (.int .u8 191)], .agg [.lit (.int .u8 128), .lit (.int .u8 143)], .agg [.lit (.int .u8 0), .lit (.int .u8 0)], .agg [.lit (.int .u8 0), .lit (.int .u8 0)], .agg [.lit (.int .u8 0), .lit (.int .u8 0)], .agg [.lit (.int .u8 0), .lit (.int .u8 0)], .agg [.lit (.int .u8 0), .lit (.int .u8 0)], .agg [.lit (.int .u8 0), .lit (.int .u8 0)], .agg [.lit (.int .u8 0), .lit (.int .u8 0)], .agg [.lit (.int .u8 0), .lit (.int .u8 0)], .agg [.lit (.int .u8 0), .lit (.int .u8 0)], .agg [.lit (.int .u8 0), .lit (.int .u8 0)], .agg [.lit (.int .u8 0), .lit (.int .u8 0)]]
def laid_tithe_api_ErrName {H : Type} : DataW H := .iface "*errors.errorString" (.ptr (.agg [.lit (.string [110, 111, 32, 110, 97, 109, 101])]))
def laid_tithe_api_ErrTwice {H : Type} : DataW H := .iface "*errors.errorString" (.ptr (.agg [.lit (.string [105, 116, 32, 105, 115, 32, 116, 104, 101, 114, 101, 32, 97, 108, 114, 101, 97, 100, 121])]))
def laid_tithe_api_ErrMany {H : Type} : DataW H := .iface "*errors.errorString" (.ptr (.agg [.lit (.string [116, 111, 111, 32, 109, 97, 110, 121])]))
def laid_tithe_api_ErrClosed {H : Type} : DataW H := .iface "*errors.errorString" (.ptr (.agg [.lit (.string [105, 116, 32, 105, 115, 32, 99, 108, 111, 115, 101, 100])]))
def laid_tithe_api_ErrCircle {H : Type} : DataW H := .iface "*errors.errorString" (.ptr (.agg [.lit (.string [108, 105, 110, 101, 115, 32, 105, 110, 32, 97, 32, 99, 105, 114, 99, 108, 101])]))
/-- One of Go's own tables, pinned by name: the form's constant. -/
def laid_unicode_utf8_first : DataW Unit := Go.Pinned.utf8First

/-- 'tithelaw5.BootKept': WHATEVER THE INPUT: true; the input reads as it did. -/
def bootKeptSpec : ChangeSpec := { name := "bootKept", fn := fun _ => fun
  | [d] => { results := [.lit (.bool true)], args := [d] }
  | _ => none }
def bootKeptRow : OpenClaim := { program := "ytodlbfekoohpoaadoor", sum := "109e80808c4f521c1ff309640dbaf18a63d682c246eb65e7627fe16cdfb75e47", func := "tithe/tithelaw5.BootKept", spec := "bootKept", inPlace := ["internal/bytealg.CountString", "internal/bytealg.IndexByteString", "internal/bytealg.IndexString"], unfollowed := true, recurses := true, named := ["tithe/api.ErrTwice", "tithe/api.ErrName", "tithe/api.ErrClosed", "unicode/utf8.first", "unicode/utf8.acceptRanges", "internal/bytealg.MaxLen", "tithe/api.ErrMany", "tithe/api.ErrCircle"], apart := false, laid := [("unicode/utf8.acceptRanges", laid_unicode_utf8_acceptRanges), ("tithe/api.ErrName", laid_tithe_api_ErrName), ("tithe/api.ErrTwice", laid_tithe_api_ErrTwice), ("tithe/api.ErrMany", laid_tithe_api_ErrMany), ("tithe/api.ErrClosed", laid_tithe_api_ErrClosed), ("tithe/api.ErrCircle", laid_tithe_api_ErrCircle), ("unicode/utf8.first", laid_unicode_utf8_first)] }
def BootKeptSaid : Prop := bootKeptRow.holds Tryd.pinned (OpenSpec.ofChange bootKeptSpec)

/-- ITS FALSE NEIGHBOUR: 'it returns false'. Refute it at one input. -/
def bootKeptWrong : ChangeSpec := { name := "bootKept", fn := fun _ => fun
  | [d] => { results := [.lit (.bool false)], args := [d] }
  | _ => none }
def BootKeptWrongFalsely : Prop := bootKeptRow.holds Tryd.pinned (OpenSpec.ofChange bootKeptWrong)

/-- 'tithelaw5.BootAnyOrder': WHATEVER THE INPUT: true; the input reads as it did. -/
def bootAnyOrderSpec : ChangeSpec := { name := "bootAnyOrder", fn := fun _ => fun
  | [d1, d2, d3] => { results := [.lit (.bool true)], args := [d1, d2, d3] }
  | _ => none }
def bootAnyOrderRow : OpenClaim := { program := "ytodlbfekoohpoaadoor", sum := "109e80808c4f521c1ff309640dbaf18a63d682c246eb65e7627fe16cdfb75e47", func := "tithe/tithelaw5.BootAnyOrder", spec := "bootAnyOrder", inPlace := ["internal/bytealg.CountString", "internal/bytealg.IndexByteString", "internal/bytealg.IndexString"], unfollowed := true, recurses := true, named := ["tithe/api.ErrTwice", "tithe/api.ErrName", "tithe/api.ErrClosed", "unicode/utf8.first", "unicode/utf8.acceptRanges", "internal/bytealg.MaxLen", "tithe/api.ErrMany", "tithe/api.ErrCircle"], apart := false, laid := [("unicode/utf8.acceptRanges", laid_unicode_utf8_acceptRanges), ("tithe/api.ErrName", laid_tithe_api_ErrName), ("tithe/api.ErrTwice", laid_tithe_api_ErrTwice), ("tithe/api.ErrMany", laid_tithe_api_ErrMany), ("tithe/api.ErrClosed", laid_tithe_api_ErrClosed), ("tithe/api.ErrCircle", laid_tithe_api_ErrCircle), ("unicode/utf8.first", laid_unicode_utf8_first)] }
def BootAnyOrderSaid : Prop := bootAnyOrderRow.holds Tryd.pinned (OpenSpec.ofChange bootAnyOrderSpec)

/-- ITS FALSE NEIGHBOUR: 'it returns false'. Refute it at one input. -/
def bootAnyOrderWrong : ChangeSpec := { name := "bootAnyOrder", fn := fun _ => fun
  | [d1, d2, d3] => { results := [.lit (.bool false)], args := [d1, d2, d3] }
  | _ => none }
def BootAnyOrderWrongFalsely : Prop := bootAnyOrderRow.holds Tryd.pinned (OpenSpec.ofChange bootAnyOrderWrong)

/-- 'tithelaw5.BootCircles': WHATEVER THE INPUT: true; the input reads as it did. -/
def bootCirclesSpec : ChangeSpec := { name := "bootCircles", fn := fun _ => fun
  | [d1, d2] => { results := [.lit (.bool true)], args := [d1, d2] }
  | _ => none }
def bootCirclesRow : OpenClaim := { program := "ytodlbfekoohpoaadoor", sum := "109e80808c4f521c1ff309640dbaf18a63d682c246eb65e7627fe16cdfb75e47", func := "tithe/tithelaw5.BootCircles", spec := "bootCircles", inPlace := ["internal/bytealg.CountString", "internal/bytealg.IndexByteString", "internal/bytealg.IndexString"], unfollowed := true, recurses := true, named := ["tithe/api.ErrTwice", "tithe/api.ErrName", "tithe/api.ErrClosed", "unicode/utf8.first", "unicode/utf8.acceptRanges", "internal/bytealg.MaxLen", "tithe/api.ErrMany", "tithe/api.ErrCircle"], apart := false, laid := [("unicode/utf8.acceptRanges", laid_unicode_utf8_acceptRanges), ("tithe/api.ErrName", laid_tithe_api_ErrName), ("tithe/api.ErrTwice", laid_tithe_api_ErrTwice), ("tithe/api.ErrMany", laid_tithe_api_ErrMany), ("tithe/api.ErrClosed", laid_tithe_api_ErrClosed), ("tithe/api.ErrCircle", laid_tithe_api_ErrCircle), ("unicode/utf8.first", laid_unicode_utf8_first)] }
def BootCirclesSaid : Prop := bootCirclesRow.holds Tryd.pinned (OpenSpec.ofChange bootCirclesSpec)

/-- ITS FALSE NEIGHBOUR: 'it returns false'. Refute it at one input. -/
def bootCirclesWrong : ChangeSpec := { name := "bootCircles", fn := fun _ => fun
  | [d1, d2] => { results := [.lit (.bool false)], args := [d1, d2] }
  | _ => none }
def BootCirclesWrongFalsely : Prop := bootCirclesRow.holds Tryd.pinned (OpenSpec.ofChange bootCirclesWrong)

/-- 'tithelaw5.BootEach': WHATEVER THE INPUT: true; the input reads as it did. -/
def bootEachSpec : ChangeSpec := { name := "bootEach", fn := fun _ => fun
  | [d1, d2] => { results := [.lit (.bool true)], args := [d1, d2] }
  | _ => none }
def bootEachRow : OpenClaim := { program := "ytodlbfekoohpoaadoor", sum := "109e80808c4f521c1ff309640dbaf18a63d682c246eb65e7627fe16cdfb75e47", func := "tithe/tithelaw5.BootEach", spec := "bootEach", inPlace := ["internal/bytealg.CountString", "internal/bytealg.IndexByteString", "internal/bytealg.IndexString"], unfollowed := true, recurses := true, named := ["tithe/api.ErrTwice", "tithe/api.ErrName", "tithe/api.ErrClosed", "unicode/utf8.first", "unicode/utf8.acceptRanges", "internal/bytealg.MaxLen", "tithe/api.ErrMany", "tithe/api.ErrCircle"], apart := false, laid := [("unicode/utf8.acceptRanges", laid_unicode_utf8_acceptRanges), ("tithe/api.ErrName", laid_tithe_api_ErrName), ("tithe/api.ErrTwice", laid_tithe_api_ErrTwice), ("tithe/api.ErrMany", laid_tithe_api_ErrMany), ("tithe/api.ErrClosed", laid_tithe_api_ErrClosed), ("tithe/api.ErrCircle", laid_tithe_api_ErrCircle), ("unicode/utf8.first", laid_unicode_utf8_first)] }
def BootEachSaid : Prop := bootEachRow.holds Tryd.pinned (OpenSpec.ofChange bootEachSpec)

/-- ITS FALSE NEIGHBOUR: 'it returns false'. Refute it at one input. -/
def bootEachWrong : ChangeSpec := { name := "bootEach", fn := fun _ => fun
  | [d1, d2] => { results := [.lit (.bool false)], args := [d1, d2] }
  | _ => none }
def BootEachWrongFalsely : Prop := bootEachRow.holds Tryd.pinned (OpenSpec.ofChange bootEachWrong)

/- THE SECOND FORM. 'bulk': how many values and letters a reading holds, each counted each time it is reached (what is shared counts as often as it is met; a slice's spare places count too). A statement '..UptoSaid' is the law's where the arguments, and the package variables that the reading takes, are together of bulk at most 1048576: NARROWER than '..Said'. Prove '..Said' where nothing that the law and all that it calls make is longer than what came in: it says more and counts as full. Else prove '..UptoSaid'. A law counts once. -/
mutual
def uptoBulk {H : Type} : DataW H → Nat
  | .lit (.string bytes) => bytes.length + 1
  | .lit _ => 1
  | .nil => 1
  | .ptr d => uptoBulk d + 1
  | .slice elems spare => uptoBulkAll elems + uptoBulkAll spare + 1
  | .agg parts => uptoBulkAll parts + 1
  | .iface _ d => uptoBulk d + 1
  | .map entries => uptoBulkEntries entries + 1
  | .held _ => 1
def uptoBulkAll {H : Type} : List (DataW H) → Nat
  | [] => 0
  | d :: r => uptoBulk d + uptoBulkAll r
def uptoBulkEntries {H : Type} : List (Lit × DataW H) → Nat
  | [] => 0
  | x :: r => uptoBulkEntry x + uptoBulkEntries r
def uptoBulkEntry {H : Type} : Lit × DataW H → Nat
  | (.string bytes, d) => bytes.length + uptoBulk d + 1
  | (_, d) => uptoBulk d + 1
 end
def uptoSmall : (H : Type) → List (DataW H) → Bool := fun _ ds => decide (uptoBulkAll ds ≤ 1048576)
def OpenSpec.upto (s : _root_.Go.ChangeSpec) : _root_.Go.OpenSpec := { _root_.Go.OpenSpec.ofChange s with cond := some uptoSmall }

/-- 'tithelaw5.BootKept', WHERE WHAT IT READS IS OF BULK AT MOST 1048576: true; the input reads as it did. -/
def bootKeptUptoRow : OpenClaim := { program := "ytodlbfekoohpoaadoor", sum := "109e80808c4f521c1ff309640dbaf18a63d682c246eb65e7627fe16cdfb75e47", func := "tithe/tithelaw5.BootKept", spec := "bootKept", inPlace := ["internal/bytealg.CountString", "internal/bytealg.IndexByteString", "internal/bytealg.IndexString"], unfollowed := true, recurses := true, named := ["tithe/api.ErrTwice", "tithe/api.ErrName", "tithe/api.ErrClosed", "unicode/utf8.first", "unicode/utf8.acceptRanges", "internal/bytealg.MaxLen", "tithe/api.ErrMany", "tithe/api.ErrCircle"], apart := false, laid := [("unicode/utf8.acceptRanges", laid_unicode_utf8_acceptRanges), ("tithe/api.ErrName", laid_tithe_api_ErrName), ("tithe/api.ErrTwice", laid_tithe_api_ErrTwice), ("tithe/api.ErrMany", laid_tithe_api_ErrMany), ("tithe/api.ErrClosed", laid_tithe_api_ErrClosed), ("tithe/api.ErrCircle", laid_tithe_api_ErrCircle), ("unicode/utf8.first", laid_unicode_utf8_first)], narrowed := true }
def BootKeptUptoSaid : Prop := bootKeptUptoRow.holds Tryd.pinned (OpenSpec.upto bootKeptSpec)

/-- 'tithelaw5.BootAnyOrder', WHERE WHAT IT READS IS OF BULK AT MOST 1048576: true; the input reads as it did. -/
def bootAnyOrderUptoRow : OpenClaim := { program := "ytodlbfekoohpoaadoor", sum := "109e80808c4f521c1ff309640dbaf18a63d682c246eb65e7627fe16cdfb75e47", func := "tithe/tithelaw5.BootAnyOrder", spec := "bootAnyOrder", inPlace := ["internal/bytealg.CountString", "internal/bytealg.IndexByteString", "internal/bytealg.IndexString"], unfollowed := true, recurses := true, named := ["tithe/api.ErrTwice", "tithe/api.ErrName", "tithe/api.ErrClosed", "unicode/utf8.first", "unicode/utf8.acceptRanges", "internal/bytealg.MaxLen", "tithe/api.ErrMany", "tithe/api.ErrCircle"], apart := false, laid := [("unicode/utf8.acceptRanges", laid_unicode_utf8_acceptRanges), ("tithe/api.ErrName", laid_tithe_api_ErrName), ("tithe/api.ErrTwice", laid_tithe_api_ErrTwice), ("tithe/api.ErrMany", laid_tithe_api_ErrMany), ("tithe/api.ErrClosed", laid_tithe_api_ErrClosed), ("tithe/api.ErrCircle", laid_tithe_api_ErrCircle), ("unicode/utf8.first", laid_unicode_utf8_first)], narrowed := true }
def BootAnyOrderUptoSaid : Prop := bootAnyOrderUptoRow.holds Tryd.pinned (OpenSpec.upto bootAnyOrderSpec)

/-- 'tithelaw5.BootCircles', WHERE WHAT IT READS IS OF BULK AT MOST 1048576: true; the input reads as it did. -/
def bootCirclesUptoRow : OpenClaim := { program := "ytodlbfekoohpoaadoor", sum := "109e80808c4f521c1ff309640dbaf18a63d682c246eb65e7627fe16cdfb75e47", func := "tithe/tithelaw5.BootCircles", spec := "bootCircles", inPlace := ["internal/bytealg.CountString", "internal/bytealg.IndexByteString", "internal/bytealg.IndexString"], unfollowed := true, recurses := true, named := ["tithe/api.ErrTwice", "tithe/api.ErrName", "tithe/api.ErrClosed", "unicode/utf8.first", "unicode/utf8.acceptRanges", "internal/bytealg.MaxLen", "tithe/api.ErrMany", "tithe/api.ErrCircle"], apart := false, laid := [("unicode/utf8.acceptRanges", laid_unicode_utf8_acceptRanges), ("tithe/api.ErrName", laid_tithe_api_ErrName), ("tithe/api.ErrTwice", laid_tithe_api_ErrTwice), ("tithe/api.ErrMany", laid_tithe_api_ErrMany), ("tithe/api.ErrClosed", laid_tithe_api_ErrClosed), ("tithe/api.ErrCircle", laid_tithe_api_ErrCircle), ("unicode/utf8.first", laid_unicode_utf8_first)], narrowed := true }
def BootCirclesUptoSaid : Prop := bootCirclesUptoRow.holds Tryd.pinned (OpenSpec.upto bootCirclesSpec)

/-- 'tithelaw5.BootEach', WHERE WHAT IT READS IS OF BULK AT MOST 1048576: true; the input reads as it did. -/
def bootEachUptoRow : OpenClaim := { program := "ytodlbfekoohpoaadoor", sum := "109e80808c4f521c1ff309640dbaf18a63d682c246eb65e7627fe16cdfb75e47", func := "tithe/tithelaw5.BootEach", spec := "bootEach", inPlace := ["internal/bytealg.CountString", "internal/bytealg.IndexByteString", "internal/bytealg.IndexString"], unfollowed := true, recurses := true, named := ["tithe/api.ErrTwice", "tithe/api.ErrName", "tithe/api.ErrClosed", "unicode/utf8.first", "unicode/utf8.acceptRanges", "internal/bytealg.MaxLen", "tithe/api.ErrMany", "tithe/api.ErrCircle"], apart := false, laid := [("unicode/utf8.acceptRanges", laid_unicode_utf8_acceptRanges), ("tithe/api.ErrName", laid_tithe_api_ErrName), ("tithe/api.ErrTwice", laid_tithe_api_ErrTwice), ("tithe/api.ErrMany", laid_tithe_api_ErrMany), ("tithe/api.ErrClosed", laid_tithe_api_ErrClosed), ("tithe/api.ErrCircle", laid_tithe_api_ErrCircle), ("unicode/utf8.first", laid_unicode_utf8_first)], narrowed := true }
def BootEachUptoSaid : Prop := bootEachUptoRow.holds Tryd.pinned (OpenSpec.upto bootEachSpec)

end Rows
end Go.Proofs.YtodlbfekoohpoaaDoor
