/-
  DERIVED: THE SHELF's CONTRACTS AT THIS DUMP, IN PLAIN WORDS (tools/lay-plain.mjs out of 'TrydShelf.lean', which tools/lay-shelf.mjs wrote): THE SAME DECLARATIONS UNDER THE SAME NAMES: 'import', 'namespace', 'open', 'def', 'theorem' AND NOTHING ELSE: no command of the shelf's: FOR A HAND-IN. Each laying: the table of numbers ('.._ren') and one theorem, a field a fact of the dump's own or the kernel's comparison; each contract: ONE APPLICATION.
-/
import Derived.Shelf.Small.Bits
import Derived.Shelf.Small.Wraps
import Derived.Shelf.Strconv.Itoa0
import Derived.Shelf.Strconv.Itoa1
import Derived.Shelf.LaysM
import Derived.Shelf.Strconv.Itoa2
import Derived.Shelf.Strconv.Itoa3
import Derived.Shelf.Sort.Plain
import Derived.Shelf.Bits.Mul64
import Derived.Ground.Names2Prog
import Derived.Shelf.Slices.CompactI
import Derived.Shelf.Slices.SearchI
import Derived.Shelf.Slices.Cells
import Derived.Ground.SlgnProg
import Derived.Shelf.SlicesE.Clone
import Derived.Ground.SlsfProg
import Derived.Shelf.SlSortCmp.InsertionK
import Derived.Shelf.SlSortCmp.SiftDownK
import Derived.Shelf.SlSortCmp.HeapSortK
import Derived.Shelf.SlSortCmp.MedianK
import Derived.Shelf.SlSortCmp.PivotK
import Derived.Shelf.SlSortCmp.ReverseRangeK
import Derived.Shelf.SlSortCmp.PartialInsertionK
import Derived.Shelf.SlSortCmp.PartitionEqualK
import Derived.Shelf.SlSortCmp.PartitionK
import Derived.Shelf.SlSortCmp.PdqK
import Derived.Shelf.SlSortCmp.WholeK
import Derived.Shelf.SlSortCmp.NoneTotal
import Derived.Test.YthgdjocoiniphaaDoorShelf
namespace Go.Proofs
open Go.Shelf
def Tryd.laysM171_ren : Go.Shelf.Ren := ⟨fun | 171 => 147 | 243 => 166 | 246 => 197 | 283 => 218 | 284 => 219 | 285 => 220 | 286 => 221 | 129 => 176 | 317 => 228 | 318 => 229 | 319 => 230 | 320 => 231 | 337 => 233 | 338 => 234 | n => n, fun | 3 => 3 | 9 => 9 | 2 => 2 | 4 => 4 | 171 => 245 | 0 => 0 | 53 => 215 | 37 => 247 | 5 => 5 | 173 => 248 | 212 => 257 | 51 => 213 | 20 => 20 | 213 => 258 | 46 => 85 | 232 => 260 | 233 => 261 | n => n, fun | 17 => 10 | 18 => 11 | 19 => 12 | n => n⟩
theorem Tryd.laysM171 : Go.Proofs.LaysM.n171 Tryd.prog Tryd.laysM171_ren := {
  mixed := by kernel_rfl
  f129 := Tryd.func176.trans (congrArg some (by kernel_rfl))
  f171 := Tryd.func147.trans (congrArg some (by kernel_rfl))
  f243 := Tryd.func166.trans (congrArg some (by kernel_rfl))
  f246 := Tryd.func197.trans (congrArg some (by kernel_rfl))
  f283 := Tryd.func218.trans (congrArg some (by kernel_rfl))
  f284 := Tryd.func219.trans (congrArg some (by kernel_rfl))
  f285 := Tryd.func220.trans (congrArg some (by kernel_rfl))
  f286 := Tryd.func221.trans (congrArg some (by kernel_rfl))
  f317 := Tryd.func228.trans (congrArg some (by kernel_rfl))
  f318 := Tryd.func229.trans (congrArg some (by kernel_rfl))
  f319 := Tryd.func230.trans (congrArg some (by kernel_rfl))
  f320 := Tryd.func231.trans (congrArg some (by kernel_rfl))
  f337 := Tryd.func233.trans (congrArg some (by kernel_rfl))
  f338 := Tryd.func234.trans (congrArg some (by kernel_rfl))
  t0 := Tryd.underlying0
  a0 := Tryd.isAgg0
  z0 := Tryd.sizeOf0
  v0 := Tryd.zeroValue0
  t2 := Tryd.underlying2
  a2 := Tryd.isAgg2
  z2 := Tryd.sizeOf2
  v2 := Tryd.zeroValue2
  t3 := Tryd.underlying3
  a3 := Tryd.isAgg3
  z3 := Tryd.sizeOf3
  v3 := Tryd.zeroValue3
  t4 := Tryd.underlying4
  a4 := Tryd.isAgg4
  z4 := Tryd.sizeOf4
  v4 := Tryd.zeroValue4
  t5 := Tryd.underlying5
  a5 := Tryd.isAgg5
  z5 := Tryd.sizeOf5
  v5 := Tryd.zeroValue5
  t9 := Tryd.underlying9
  a9 := Tryd.isAgg9
  z9 := Tryd.sizeOf9
  v9 := Tryd.zeroValue9
  t20 := Tryd.underlying20
  a20 := Tryd.isAgg20
  z20 := Tryd.sizeOf20
  v20 := Tryd.zeroValue20
  t37 := Tryd.underlying247
  a37 := Tryd.isAgg247
  z37 := Tryd.sizeOf247
  v37 := Tryd.zeroValue247
  t46 := Tryd.underlying85
  a46 := Tryd.isAgg85
  z46 := Tryd.sizeOf85
  v46 := Tryd.zeroValue85
  t51 := Tryd.underlying213
  a51 := Tryd.isAgg213
  z51 := Tryd.sizeOf213
  v51 := Tryd.zeroValue213
  t53 := Tryd.underlying215
  a53 := Tryd.isAgg215
  z53 := Tryd.sizeOf215
  v53 := Tryd.zeroValue215
  t171 := Tryd.underlying245
  a171 := Tryd.isAgg245
  z171 := Tryd.sizeOf245
  v171 := Tryd.zeroValue245
  t173 := Tryd.underlying248
  a173 := Tryd.isAgg248
  z173 := Tryd.sizeOf248
  v173 := Tryd.zeroValue248
  t212 := Tryd.underlying257
  a212 := Tryd.isAgg257
  z212 := Tryd.sizeOf257
  v212 := Tryd.zeroValue257
  t213 := Tryd.underlying258
  a213 := Tryd.isAgg258
  z213 := Tryd.sizeOf258
  t232 := Tryd.underlying260
  a232 := Tryd.isAgg260
  z232 := Tryd.sizeOf260
  v232 := Tryd.zeroValue260
  t233 := Tryd.underlying261
  a233 := Tryd.isAgg261
  z233 := Tryd.sizeOf261
  v233 := Tryd.zeroValue261
  g17 := by kernel_rfl
  g18 := by kernel_rfl
  g19 := by kernel_rfl
  i0 := by kernel_rfl
  i2 := by kernel_rfl
  i3 := by kernel_rfl
  i4 := by kernel_rfl
  i5 := by kernel_rfl
  i9 := by kernel_rfl
  i20 := by kernel_rfl
  i37 := by kernel_rfl
  i46 := by kernel_rfl
  i51 := by kernel_rfl
  i53 := by kernel_rfl
  i171 := by kernel_rfl
  i173 := by kernel_rfl
  i212 := by kernel_rfl
  i232 := by kernel_rfl
  i233 := by kernel_rfl
  m17 := by kernel_rfl
  m18 := by kernel_rfl
  m19 := by kernel_rfl }
open Go.RowKit Go.Sort Go.Lib in
/-- strconv.Itoa: "Itoa is equivalent to FormatInt(int64(i), 10).": i's DECIMAL NUMERAL ('Lib.itoa': a '-' where i is negative, then the digits), FOR EVERY int. The world behind the call: the world before it, new blocks behind the heap (the library's 'var a [24]byte'), draws. (LAID: no walk: one application.) -/
theorem Tryd.strconv_Itoa (n : Int) (h0 : -9223372036854775808 ≤ n) (h1 : n ≤ 9223372036854775807) (w : World) (htab : Lib.TabIs Tryd.prog w "internal/strconv.uint64pow10" .u64 Lib.pow10Tab) :
    Calls Tryd.prog 147 #[.int .i64 n] w fun e w' => e = .returned (.string ⟨(Lib.itoa n).toArray⟩) ∧ ∃ k os, w' = grow (w.drewN k) os := Any.strconv_Itoa Tryd.laysM171 n h0 h1 w htab
end Go.Proofs
