/-
  DERIVED: THE SHELF's CONTRACTS AT THIS DUMP, IN PLAIN WORDS (tools/lay-plain.mjs out of 'TrydShelf.lean', which tools/lay-shelf.mjs wrote): THE SAME DECLARATIONS UNDER THE SAME NAMES: 'import', 'namespace', 'open', 'def', 'theorem' AND NOTHING ELSE: no command of the shelf's: FOR A HAND-IN. Each laying: the table of numbers ('.._ren') and one theorem, a field a fact of the dump's own or the kernel's comparison; each contract: ONE APPLICATION.
-/
import Derived.Shelf.Small.Bits
import Derived.Shelf.Small.Wraps
import Derived.Shelf.Strconv.Itoa0
import Derived.Shelf.Strconv.Itoa1
import Derived.Shelf.LaysM
import Derived.Shelf.Strconv.Itoa2
import Derived.Shelf.Strconv.Itoa3
import Derived.Shelf.Sort.Plain
import Derived.Shelf.Bits.Mul64
import Derived.Ground.Names2Prog
import Derived.Shelf.Slices.CompactI
import Derived.Shelf.Slices.SearchI
import Derived.Shelf.Slices.Cells
import Derived.Ground.SlgnProg
import Derived.Shelf.SlicesE.Clone
import Derived.Ground.SlsfProg
import Derived.Shelf.SlSortCmp.InsertionK
import Derived.Shelf.SlSortCmp.SiftDownK
import Derived.Shelf.SlSortCmp.HeapSortK
import Derived.Shelf.SlSortCmp.MedianK
import Derived.Shelf.SlSortCmp.PivotK
import Derived.Shelf.SlSortCmp.ReverseRangeK
import Derived.Shelf.SlSortCmp.PartialInsertionK
import Derived.Shelf.SlSortCmp.PartitionEqualK
import Derived.Shelf.SlSortCmp.PartitionK
import Derived.Shelf.SlSortCmp.PdqK
import Derived.Shelf.SlSortCmp.WholeK
import Derived.Shelf.SlSortCmp.NoneTotal
import Derived.Test.YthgdjocoiniphaaDoorShelf
namespace Go.Proofs
open Go.Shelf
def Tryd.lays189_ren : Go.Shelf.Ren := ⟨fun | 189 => 162 | 125 => 155 | 257 => 193 | 128 => 175 | 129 => 176 | 294 => 209 | 295 => 210 | 296 => 211 | 297 => 212 | 298 => 213 | 299 => 214 | 216 => 215 | 300 => 216 | 301 => 217 | 328 => 224 | 329 => 199 | 330 => 200 | 331 => 225 | 332 => 226 | 215 => 227 | 343 => 232 | n => n, fun | 28 => 175 | 3 => 3 | 46 => 85 | 0 => 0 | 51 => 213 | 53 => 215 | 4 => 4 | 183 => 207 | 182 => 206 | 131 => 113 | 5 => 5 | 9 => 9 | 218 => 228 | 222 => 231 | 228 => 250 | 229 => 251 | n => n, fun | n => n⟩
theorem Tryd.lays189 : Go.Proofs.Lays.n189 Tryd.prog Tryd.lays189_ren := {
  mixed := by kernel_rfl
  f125 := Tryd.func155.trans (congrArg some (by kernel_rfl))
  f128 := Tryd.func175.trans (congrArg some (by kernel_rfl))
  f129 := Tryd.func176.trans (congrArg some (by kernel_rfl))
  f189 := Tryd.func162.trans (congrArg some (by kernel_rfl))
  f215 := Tryd.func227.trans (congrArg some (by kernel_rfl))
  f216 := Tryd.func215.trans (congrArg some (by kernel_rfl))
  f257 := Tryd.func193.trans (congrArg some (by kernel_rfl))
  f294 := Tryd.func209.trans (congrArg some (by kernel_rfl))
  f295 := Tryd.func210.trans (congrArg some (by kernel_rfl))
  f296 := Tryd.func211.trans (congrArg some (by kernel_rfl))
  f297 := Tryd.func212.trans (congrArg some (by kernel_rfl))
  f298 := Tryd.func213.trans (congrArg some (by kernel_rfl))
  f299 := Tryd.func214.trans (congrArg some (by kernel_rfl))
  f300 := Tryd.func216.trans (congrArg some (by kernel_rfl))
  f301 := Tryd.func217.trans (congrArg some (by kernel_rfl))
  f328 := Tryd.func224.trans (congrArg some (by kernel_rfl))
  f329 := Tryd.func199.trans (congrArg some (by kernel_rfl))
  f330 := Tryd.func200.trans (congrArg some (by kernel_rfl))
  f331 := Tryd.func225.trans (congrArg some (by kernel_rfl))
  f332 := Tryd.func226.trans (congrArg some (by kernel_rfl))
  f343 := Tryd.func232.trans (congrArg some (by kernel_rfl))
  t0 := Tryd.underlying0
  a0 := Tryd.isAgg0
  z0 := Tryd.sizeOf0
  v0 := Tryd.zeroValue0
  t3 := Tryd.underlying3
  a3 := Tryd.isAgg3
  z3 := Tryd.sizeOf3
  v3 := Tryd.zeroValue3
  t4 := Tryd.underlying4
  a4 := Tryd.isAgg4
  z4 := Tryd.sizeOf4
  v4 := Tryd.zeroValue4
  t5 := Tryd.underlying5
  a5 := Tryd.isAgg5
  z5 := Tryd.sizeOf5
  v5 := Tryd.zeroValue5
  t9 := Tryd.underlying9
  a9 := Tryd.isAgg9
  z9 := Tryd.sizeOf9
  v9 := Tryd.zeroValue9
  t28 := Tryd.underlying175
  a28 := Tryd.isAgg175
  z28 := Tryd.sizeOf175
  v28 := Tryd.zeroValue175
  t46 := Tryd.underlying85
  a46 := Tryd.isAgg85
  z46 := Tryd.sizeOf85
  v46 := Tryd.zeroValue85
  t51 := Tryd.underlying213
  a51 := Tryd.isAgg213
  z51 := Tryd.sizeOf213
  v51 := Tryd.zeroValue213
  t53 := Tryd.underlying215
  a53 := Tryd.isAgg215
  z53 := Tryd.sizeOf215
  v53 := Tryd.zeroValue215
  t131 := Tryd.underlying113
  a131 := Tryd.isAgg113
  z131 := Tryd.sizeOf113
  v131 := Tryd.zeroValue113
  t182 := Tryd.underlying206
  a182 := Tryd.isAgg206
  z182 := Tryd.sizeOf206
  v182 := Tryd.zeroValue206
  t183 := Tryd.underlying207
  a183 := Tryd.isAgg207
  z183 := Tryd.sizeOf207
  v183 := Tryd.zeroValue207
  t218 := Tryd.underlying228
  a218 := Tryd.isAgg228
  z218 := Tryd.sizeOf228
  v218 := Tryd.zeroValue228
  t222 := Tryd.underlying231
  a222 := Tryd.isAgg231
  z222 := Tryd.sizeOf231
  v222 := Tryd.zeroValue231
  t228 := Tryd.underlying250
  a228 := Tryd.isAgg250
  z228 := Tryd.sizeOf250
  v228 := Tryd.zeroValue250
  t229 := Tryd.underlying251
  a229 := Tryd.isAgg251
  z229 := Tryd.sizeOf251
  v229 := Tryd.zeroValue251 }
open Go.Sort Go.RowKit in
theorem Tryd.slices_Sort_int (blk off cap : Nat) (zs : List Int) (w : World) (hH : Holds (Value.int .i64) w blk off zs.toArray) (hblk : blk < w.heap.size) (hsz : zs.length < 4611686018427387904) :
    Calls Tryd.prog 162 #[.slice (some ⟨blk, off, none⟩) zs.length cap] w fun e w' =>
      e = .returned (.tuple #[]) ∧ ∃ n os, w' = grow (putRow (Value.int .i64) (Sort.ahead w n) blk off (zs.mergeSort fun x y => decide (x ≤ y)).toArray) os := Any.slices_Sort_int Tryd.lays189 blk off cap zs w hH hblk hsz
def Tryd.laysNm220_ren : Go.Shelf.Ren := ⟨fun | 20 => 163 | n => n, fun | 22 => 175 | 3 => 3 | 4 => 4 | 0 => 0 | n => n, fun | n => n⟩
theorem Tryd.laysNm220 : Go.Proofs.Lays2.n20 Tryd.prog Tryd.laysNm220_ren := {
  mixed := by kernel_rfl
  f20 := Tryd.func163.trans (congrArg some (by kernel_rfl))
  t0 := Tryd.underlying0
  a0 := Tryd.isAgg0
  z0 := Tryd.sizeOf0
  v0 := Tryd.zeroValue0
  t3 := Tryd.underlying3
  a3 := Tryd.isAgg3
  z3 := Tryd.sizeOf3
  v3 := Tryd.zeroValue3
  t4 := Tryd.underlying4
  a4 := Tryd.isAgg4
  z4 := Tryd.sizeOf4
  v4 := Tryd.zeroValue4
  t22 := Tryd.underlying175
  a22 := Tryd.isAgg175
  z22 := Tryd.sizeOf175
  v22 := Tryd.zeroValue175
  i3 := by kernel_rfl }
open Go.RowKit Go.Lib Go.Sort in
/-- slices.Compact at []int: "Compact replaces consecutive runs of equal elements with a single copy. This is like the uniq command found on Unix. Compact modifies the contents of the slice s and returns the modified slice, which may have a smaller length. Compact zeroes the elements between the new length and the original length. The result preserves the nilness of s.": IT RETURNS THE SLICE CUT TO 'Lib.compact zs'; ITS CELLS HOLD 'Lib.compact zs', THEN ZERO VALUES up to the old length; all else is as it was, but for the count of draws. IN THE WORDS OF slices.Sort's CONTRACT ('Holds', 'putRow'): so the everyday 'slices.Sort(xs); xs = slices.Compact(xs)' goes from the one contract to the other. It asks 'zs.length ≤ cap' (every slice's: the reslicing 's[:k]' looks at it). Length 0, nil: '.._empty'. (LAID: no walk: one application.) -/
theorem Tryd.slices_Compact_int (blk off cap : Nat) (zs : List Int) (w : World) (hH : Holds (Value.int .i64) w blk off zs.toArray) (hsz : zs.length ≤ 9223372036854775807) (hcap : zs.length ≤ cap) :
    Calls Tryd.prog 163 #[.slice (some ⟨blk, off, none⟩) zs.length cap] w fun e w' => e = .returned (.slice (some ⟨blk, off, none⟩) (Lib.compact zs).length cap) ∧ ∃ q, w' = putRow (Value.int .i64) (Sort.ahead w q) blk off (Lib.compact zs ++ List.replicate (zs.length - (Lib.compact zs).length) 0).toArray := Any.slices_Compact_int Tryd.laysNm220 blk off cap zs w hH hsz hcap
end Go.Proofs
