/-
  DERIVED: THE SHELF's CONTRACTS AT THIS DUMP, IN PLAIN WORDS (tools/lay-plain.mjs out of 'TrydShelf.lean', which tools/lay-shelf.mjs wrote): THE SAME DECLARATIONS UNDER THE SAME NAMES: 'import', 'namespace', 'open', 'def', 'theorem' AND NOTHING ELSE: no command of the shelf's: FOR A HAND-IN. Each laying: the table of numbers ('.._ren') and one theorem, a field a fact of the dump's own or the kernel's comparison; each contract: ONE APPLICATION.
-/
import Derived.Shelf.Small.Bits
import Derived.Shelf.Small.Wraps
import Derived.Shelf.Strconv.Itoa0
import Derived.Shelf.Strconv.Itoa1
import Derived.Shelf.LaysM
import Derived.Shelf.Strconv.Itoa2
import Derived.Shelf.Strconv.Itoa3
import Derived.Shelf.Sort.Plain
import Derived.Shelf.Bits.Mul64
import Derived.Ground.Names2Prog
import Derived.Shelf.Slices.CompactI
import Derived.Shelf.Slices.SearchI
import Derived.Shelf.Slices.Cells
import Derived.Ground.SlgnProg
import Derived.Shelf.SlicesE.Clone
import Derived.Ground.SlsfProg
import Derived.Shelf.SlSortCmp.InsertionK
import Derived.Shelf.SlSortCmp.SiftDownK
import Derived.Shelf.SlSortCmp.HeapSortK
import Derived.Shelf.SlSortCmp.MedianK
import Derived.Shelf.SlSortCmp.PivotK
import Derived.Shelf.SlSortCmp.ReverseRangeK
import Derived.Shelf.SlSortCmp.PartialInsertionK
import Derived.Shelf.SlSortCmp.PartitionEqualK
import Derived.Shelf.SlSortCmp.PartitionK
import Derived.Shelf.SlSortCmp.PdqK
import Derived.Shelf.SlSortCmp.WholeK
import Derived.Shelf.SlSortCmp.NoneTotal
import Derived.Test.YthgdjocoiniphaaDoorLineSort
namespace Go.Proofs
open Go.Shelf
def Tryd.laysSlF06_f126_ren : Go.Shelf.Ren := ⟨fun | 6 => 126 | 15 => 155 | 14 => 154 | 28 => 175 | 29 => 176 | 20 => 167 | 21 => 168 | 22 => 169 | 23 => 170 | 24 => 171 | 25 => 172 | 26 => 173 | 27 => 174 | 46 => 198 | 47 => 199 | 48 => 200 | 49 => 201 | 50 => 202 | 57 => 222 | n => n, fun | 22 => 46 | 24 => 29 | 25 => 128 | 3 => 3 | 39 => 85 | 0 => 0 | 53 => 213 | 55 => 215 | 4 => 4 | 46 => 207 | 45 => 206 | 50 => 113 | 5 => 5 | 9 => 9 | 66 => 228 | 70 => 231 | 76 => 250 | 77 => 251 | n => n, fun | n => n⟩
theorem Tryd.laysSlF06_f126 : Go.Proofs.SlLaysF0.n6 Tryd.prog Tryd.laysSlF06_f126_ren := {
  mixed := by kernel_rfl
  f6 := ⟨Tryd.f126.name, by decide, Tryd.func126.trans (congrArg some (by kernel_rfl))⟩
  f14 := ⟨Tryd.f154.name, by decide, Tryd.func154.trans (congrArg some (by kernel_rfl))⟩
  f15 := Tryd.func155.trans (congrArg some (by kernel_rfl))
  f20 := ⟨Tryd.f167.name, by decide, Tryd.func167.trans (congrArg some (by kernel_rfl))⟩
  f21 := ⟨Tryd.f168.name, by decide, Tryd.func168.trans (congrArg some (by kernel_rfl))⟩
  f22 := ⟨Tryd.f169.name, by decide, Tryd.func169.trans (congrArg some (by kernel_rfl))⟩
  f23 := ⟨Tryd.f170.name, by decide, Tryd.func170.trans (congrArg some (by kernel_rfl))⟩
  f24 := ⟨Tryd.f171.name, by decide, Tryd.func171.trans (congrArg some (by kernel_rfl))⟩
  f25 := ⟨Tryd.f172.name, by decide, Tryd.func172.trans (congrArg some (by kernel_rfl))⟩
  f26 := ⟨Tryd.f173.name, by decide, Tryd.func173.trans (congrArg some (by kernel_rfl))⟩
  f27 := ⟨Tryd.f174.name, by decide, Tryd.func174.trans (congrArg some (by kernel_rfl))⟩
  f28 := Tryd.func175.trans (congrArg some (by kernel_rfl))
  f29 := Tryd.func176.trans (congrArg some (by kernel_rfl))
  f46 := ⟨Tryd.f198.name, by decide, Tryd.func198.trans (congrArg some (by kernel_rfl))⟩
  f47 := Tryd.func199.trans (congrArg some (by kernel_rfl))
  f48 := Tryd.func200.trans (congrArg some (by kernel_rfl))
  f49 := ⟨Tryd.f201.name, by decide, Tryd.func201.trans (congrArg some (by kernel_rfl))⟩
  f50 := ⟨Tryd.f202.name, by decide, Tryd.func202.trans (congrArg some (by kernel_rfl))⟩
  f57 := ⟨Tryd.f222.name, by decide, Tryd.func222.trans (congrArg some (by kernel_rfl))⟩
  t0 := Tryd.underlying0
  a0 := Tryd.isAgg0
  z0 := Tryd.sizeOf0
  v0 := Tryd.zeroValue0
  t3 := Tryd.underlying3
  a3 := Tryd.isAgg3
  z3 := Tryd.sizeOf3
  v3 := Tryd.zeroValue3
  t4 := Tryd.underlying4
  a4 := Tryd.isAgg4
  z4 := Tryd.sizeOf4
  v4 := Tryd.zeroValue4
  t5 := Tryd.underlying5
  a5 := Tryd.isAgg5
  z5 := Tryd.sizeOf5
  v5 := Tryd.zeroValue5
  t9 := Tryd.underlying9
  a9 := Tryd.isAgg9
  z9 := Tryd.sizeOf9
  v9 := Tryd.zeroValue9
  t22 := Tryd.underlying46
  a22 := Tryd.isAgg46
  z22 := Tryd.sizeOf46
  v22 := Tryd.zeroValue46
  t25 := Tryd.underlying128
  a25 := Tryd.isAgg128
  z25 := Tryd.sizeOf128
  v25 := Tryd.zeroValue128
  t39 := Tryd.underlying85
  a39 := Tryd.isAgg85
  z39 := Tryd.sizeOf85
  v39 := Tryd.zeroValue85
  t45 := Tryd.underlying206
  a45 := Tryd.isAgg206
  z45 := Tryd.sizeOf206
  v45 := Tryd.zeroValue206
  t46 := Tryd.underlying207
  a46 := Tryd.isAgg207
  z46 := Tryd.sizeOf207
  v46 := Tryd.zeroValue207
  t50 := Tryd.underlying113
  a50 := Tryd.isAgg113
  z50 := Tryd.sizeOf113
  v50 := Tryd.zeroValue113
  t53 := Tryd.underlying213
  a53 := Tryd.isAgg213
  z53 := Tryd.sizeOf213
  v53 := Tryd.zeroValue213
  t55 := Tryd.underlying215
  a55 := Tryd.isAgg215
  z55 := Tryd.sizeOf215
  v55 := Tryd.zeroValue215
  t66 := Tryd.underlying228
  a66 := Tryd.isAgg228
  z66 := Tryd.sizeOf228
  v66 := Tryd.zeroValue228
  t70 := Tryd.underlying231
  a70 := Tryd.isAgg231
  z70 := Tryd.sizeOf231
  v70 := Tryd.zeroValue231
  t76 := Tryd.underlying250
  a76 := Tryd.isAgg250
  z76 := Tryd.sizeOf250
  v76 := Tryd.zeroValue250
  t77 := Tryd.underlying251
  a77 := Tryd.isAgg251
  z77 := Tryd.sizeOf251
  v77 := Tryd.zeroValue251 }
def Tryd.laysSlF06_f137_ren : Go.Shelf.Ren := ⟨fun | 6 => 137 | 15 => 155 | 14 => 161 | 28 => 175 | 29 => 176 | 20 => 185 | 21 => 186 | 22 => 187 | 23 => 188 | 24 => 189 | 25 => 190 | 26 => 191 | 27 => 192 | 46 => 206 | 47 => 199 | 48 => 200 | 49 => 207 | 50 => 208 | 57 => 223 | n => n, fun | 22 => 75 | 24 => 70 | 25 => 174 | 3 => 3 | 39 => 85 | 0 => 0 | 53 => 213 | 55 => 215 | 4 => 4 | 46 => 207 | 45 => 206 | 50 => 113 | 5 => 5 | 9 => 9 | 66 => 228 | 70 => 231 | 76 => 250 | 77 => 251 | n => n, fun | n => n⟩
theorem Tryd.laysSlF06_f137 : Go.Proofs.SlLaysF0.n6 Tryd.prog Tryd.laysSlF06_f137_ren := {
  mixed := by kernel_rfl
  f6 := ⟨Tryd.f137.name, by decide, Tryd.func137.trans (congrArg some (by kernel_rfl))⟩
  f14 := ⟨Tryd.f161.name, by decide, Tryd.func161.trans (congrArg some (by kernel_rfl))⟩
  f15 := Tryd.func155.trans (congrArg some (by kernel_rfl))
  f20 := ⟨Tryd.f185.name, by decide, Tryd.func185.trans (congrArg some (by kernel_rfl))⟩
  f21 := ⟨Tryd.f186.name, by decide, Tryd.func186.trans (congrArg some (by kernel_rfl))⟩
  f22 := ⟨Tryd.f187.name, by decide, Tryd.func187.trans (congrArg some (by kernel_rfl))⟩
  f23 := ⟨Tryd.f188.name, by decide, Tryd.func188.trans (congrArg some (by kernel_rfl))⟩
  f24 := ⟨Tryd.f189.name, by decide, Tryd.func189.trans (congrArg some (by kernel_rfl))⟩
  f25 := ⟨Tryd.f190.name, by decide, Tryd.func190.trans (congrArg some (by kernel_rfl))⟩
  f26 := ⟨Tryd.f191.name, by decide, Tryd.func191.trans (congrArg some (by kernel_rfl))⟩
  f27 := ⟨Tryd.f192.name, by decide, Tryd.func192.trans (congrArg some (by kernel_rfl))⟩
  f28 := Tryd.func175.trans (congrArg some (by kernel_rfl))
  f29 := Tryd.func176.trans (congrArg some (by kernel_rfl))
  f46 := ⟨Tryd.f206.name, by decide, Tryd.func206.trans (congrArg some (by kernel_rfl))⟩
  f47 := Tryd.func199.trans (congrArg some (by kernel_rfl))
  f48 := Tryd.func200.trans (congrArg some (by kernel_rfl))
  f49 := ⟨Tryd.f207.name, by decide, Tryd.func207.trans (congrArg some (by kernel_rfl))⟩
  f50 := ⟨Tryd.f208.name, by decide, Tryd.func208.trans (congrArg some (by kernel_rfl))⟩
  f57 := ⟨Tryd.f223.name, by decide, Tryd.func223.trans (congrArg some (by kernel_rfl))⟩
  t0 := Tryd.underlying0
  a0 := Tryd.isAgg0
  z0 := Tryd.sizeOf0
  v0 := Tryd.zeroValue0
  t3 := Tryd.underlying3
  a3 := Tryd.isAgg3
  z3 := Tryd.sizeOf3
  v3 := Tryd.zeroValue3
  t4 := Tryd.underlying4
  a4 := Tryd.isAgg4
  z4 := Tryd.sizeOf4
  v4 := Tryd.zeroValue4
  t5 := Tryd.underlying5
  a5 := Tryd.isAgg5
  z5 := Tryd.sizeOf5
  v5 := Tryd.zeroValue5
  t9 := Tryd.underlying9
  a9 := Tryd.isAgg9
  z9 := Tryd.sizeOf9
  v9 := Tryd.zeroValue9
  t22 := Tryd.underlying75
  a22 := Tryd.isAgg75
  z22 := Tryd.sizeOf75
  v22 := Tryd.zeroValue75
  t25 := Tryd.underlying174
  a25 := Tryd.isAgg174
  z25 := Tryd.sizeOf174
  v25 := Tryd.zeroValue174
  t39 := Tryd.underlying85
  a39 := Tryd.isAgg85
  z39 := Tryd.sizeOf85
  v39 := Tryd.zeroValue85
  t45 := Tryd.underlying206
  a45 := Tryd.isAgg206
  z45 := Tryd.sizeOf206
  v45 := Tryd.zeroValue206
  t46 := Tryd.underlying207
  a46 := Tryd.isAgg207
  z46 := Tryd.sizeOf207
  v46 := Tryd.zeroValue207
  t50 := Tryd.underlying113
  a50 := Tryd.isAgg113
  z50 := Tryd.sizeOf113
  v50 := Tryd.zeroValue113
  t53 := Tryd.underlying213
  a53 := Tryd.isAgg213
  z53 := Tryd.sizeOf213
  v53 := Tryd.zeroValue213
  t55 := Tryd.underlying215
  a55 := Tryd.isAgg215
  z55 := Tryd.sizeOf215
  v55 := Tryd.zeroValue215
  t66 := Tryd.underlying228
  a66 := Tryd.isAgg228
  z66 := Tryd.sizeOf228
  v66 := Tryd.zeroValue228
  t70 := Tryd.underlying231
  a70 := Tryd.isAgg231
  z70 := Tryd.sizeOf231
  v70 := Tryd.zeroValue231
  t76 := Tryd.underlying250
  a76 := Tryd.isAgg250
  z76 := Tryd.sizeOf250
  v76 := Tryd.zeroValue250
  t77 := Tryd.underlying251
  a77 := Tryd.isAgg251
  z77 := Tryd.sizeOf251
  v77 := Tryd.zeroValue251 }
open Go.RowKit Go.Lib Go.Sort in
/-- **slices.SortFunc, IN THE DOCUMENTATION's OWN TERMS: A PERMUTATION OF WHAT THE ROW HELD, SORTED BY 'cmp(a, b) < 0'.** Which of two equals comes first is left open ("The sort is not guaranteed to be stable"). (LAID AT THE INSTANCE 'slices.SortFunc[[]tithe/api.Frac,tithe/api.Frac]': no walk: one application.) -/
theorem Tryd.slices_SortFunc_f126 {α : Type} [Inhabited α] (k : Nat) (aE : ∀ w, (isAgg (Tryd.laysSlF06_f126_ren.t 24)).run Tryd.prog w = .ok true w) (zE : ∀ w, (Go.sizeOf (Tryd.laysSlF06_f126_ren.t 24)).run Tryd.prog w = .ok k w) (enc : α → List Value) (hk : ∀ x, (enc x).length = k) (h1 : ∀ x, ∀ v ∈ enc x, v.oneCell' = true) (cf : α → α → Int) (hO : SWO (ltOf cf)) (g : Nat) (cb : Array Value) (blk off cap : Nat) (d : Array α) (w : World) (eg : ∀ args w, (callFunc g args).run Tryd.prog w = .ok (.enter g args) w) (hcmp : CmpLays Tryd.prog g cb enc k cf blk off d.size w) (hH : HoldsK enc k w blk off d) (hblk : blk < w.heap.size) (hsz : d.size < 4611686018427387904) :
    Calls Tryd.prog 126 #[.slice (some ⟨blk, off, none⟩) d.size cap, .func (.func g) #[] cb] w fun e w' =>
      e = .returned (.tuple #[]) ∧ ∃ d' n os, PermIn 0 d.size d d' ∧ SortedIn (ltOf cf) 0 d.size d' ∧ w' = sortWorldK enc k w blk off n d' os := AnyQ.slices_SortFunc Tryd.laysSlF06_f126 k aE zE enc hk h1 cf hO g cb blk off cap d w eg hcmp hH hblk hsz
open Go.RowKit Go.Lib Go.Sort in
/-- **slices.SortFunc, IN THE DOCUMENTATION's OWN TERMS: A PERMUTATION OF WHAT THE ROW HELD, SORTED BY 'cmp(a, b) < 0'.** Which of two equals comes first is left open ("The sort is not guaranteed to be stable"). (LAID AT THE INSTANCE 'slices.SortFunc[[]tithe/api.Span,tithe/api.Span]': no walk: one application.) -/
theorem Tryd.slices_SortFunc_f137 {α : Type} [Inhabited α] (k : Nat) (aE : ∀ w, (isAgg (Tryd.laysSlF06_f137_ren.t 24)).run Tryd.prog w = .ok true w) (zE : ∀ w, (Go.sizeOf (Tryd.laysSlF06_f137_ren.t 24)).run Tryd.prog w = .ok k w) (enc : α → List Value) (hk : ∀ x, (enc x).length = k) (h1 : ∀ x, ∀ v ∈ enc x, v.oneCell' = true) (cf : α → α → Int) (hO : SWO (ltOf cf)) (g : Nat) (cb : Array Value) (blk off cap : Nat) (d : Array α) (w : World) (eg : ∀ args w, (callFunc g args).run Tryd.prog w = .ok (.enter g args) w) (hcmp : CmpLays Tryd.prog g cb enc k cf blk off d.size w) (hH : HoldsK enc k w blk off d) (hblk : blk < w.heap.size) (hsz : d.size < 4611686018427387904) :
    Calls Tryd.prog 137 #[.slice (some ⟨blk, off, none⟩) d.size cap, .func (.func g) #[] cb] w fun e w' =>
      e = .returned (.tuple #[]) ∧ ∃ d' n os, PermIn 0 d.size d d' ∧ SortedIn (ltOf cf) 0 d.size d' ∧ w' = sortWorldK enc k w blk off n d' os := AnyQ.slices_SortFunc Tryd.laysSlF06_f137 k aE zE enc hk h1 cf hO g cb blk off cap d w eg hcmp hH hblk hsz
open Go.RowKit Go.Lib Go.Sort in
/-- **slices.SortFunc AT NO ELEMENT, A nil SLICE TOO: nothing turns.** (LAID AT THE INSTANCE 'slices.SortFunc[[]tithe/api.Frac,tithe/api.Frac]': no walk: one application.) -/
theorem Tryd.slices_SortFunc_none_f126 {α : Type} [Inhabited α] (p : Option Addr) (cap : Nat) (fv : Value) (w : World) :
    Calls Tryd.prog 126 #[.slice p 0 cap, fv] w fun e w' => e = .returned (.tuple #[]) ∧ w' = w := AnyF.slices_SortFunc_none Tryd.laysSlF06_f126 p cap fv w
open Go.RowKit Go.Lib Go.Sort in
/-- **slices.SortFunc AT NO ELEMENT, A nil SLICE TOO: nothing turns.** (LAID AT THE INSTANCE 'slices.SortFunc[[]tithe/api.Span,tithe/api.Span]': no walk: one application.) -/
theorem Tryd.slices_SortFunc_none_f137 {α : Type} [Inhabited α] (p : Option Addr) (cap : Nat) (fv : Value) (w : World) :
    Calls Tryd.prog 137 #[.slice p 0 cap, fv] w fun e w' => e = .returned (.tuple #[]) ∧ w' = w := AnyF.slices_SortFunc_none Tryd.laysSlF06_f137 p cap fv w
end Go.Proofs
