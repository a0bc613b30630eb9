/-
  DERIVED: THE SHELF's CONTRACTS AT THIS DUMP, IN PLAIN WORDS (tools/lay-plain.mjs out of 'TrydShelf.lean', which tools/lay-shelf.mjs wrote): THE SAME DECLARATIONS UNDER THE SAME NAMES: 'import', 'namespace', 'open', 'def', 'theorem' AND NOTHING ELSE: no command of the shelf's: FOR A HAND-IN. Each laying: the table of numbers ('.._ren') and one theorem, a field a fact of the dump's own or the kernel's comparison; each contract: ONE APPLICATION.
-/
import Derived.Shelf.Small.Bits
import Derived.Shelf.Strconv.Itoa0
import Derived.Shelf.Strconv.Itoa1
import Derived.Shelf.LaysM
import Derived.Shelf.Strconv.Itoa2
import Derived.Shelf.Strconv.Itoa3
import Derived.Shelf.Sort.Plain
import Derived.Shelf.Bits.Mul64
import Derived.Ground.Names2Prog
import Derived.Shelf.Slices.CompactI
import Derived.Shelf.Slices.SearchI
import Derived.Shelf.Slices.Cells
import Derived.Ground.SlgnProg
import Derived.Shelf.SlicesE.Clone
import Derived.Ground.SlsfProg
import Derived.Shelf.SlSortCmp.InsertionK
import Derived.Shelf.SlSortCmp.SiftDownK
import Derived.Shelf.SlSortCmp.HeapSortK
import Derived.Shelf.SlSortCmp.MedianK
import Derived.Shelf.SlSortCmp.PivotK
import Derived.Shelf.SlSortCmp.ReverseRangeK
import Derived.Shelf.SlSortCmp.PartialInsertionK
import Derived.Shelf.SlSortCmp.PartitionEqualK
import Derived.Shelf.SlSortCmp.PartitionK
import Derived.Shelf.SlSortCmp.PdqK
import Derived.Shelf.SlSortCmp.WholeK
import Derived.Shelf.SlSortCmp.NoneTotal
import Derived.Test.YtmodofbelpaelaaDoorLineSort
namespace Go.Proofs
open Go.Shelf
def Tryd.laysSlF06_f102_ren : Go.Shelf.Ren := ⟨fun | 6 => 102 | 15 => 134 | 14 => 133 | 28 => 155 | 29 => 156 | 20 => 147 | 21 => 148 | 22 => 149 | 23 => 150 | 24 => 151 | 25 => 152 | 26 => 153 | 27 => 154 | 46 => 178 | 47 => 179 | 48 => 180 | 49 => 181 | 50 => 182 | 57 => 199 | n => n, fun | 22 => 46 | 24 => 29 | 25 => 97 | 3 => 3 | 39 => 168 | 0 => 0 | 53 => 196 | 55 => 198 | 4 => 4 | 46 => 190 | 45 => 189 | 50 => 114 | 5 => 5 | 9 => 9 | 66 => 210 | 70 => 213 | 76 => 228 | 77 => 229 | n => n, fun | n => n⟩
theorem Tryd.laysSlF06_f102 : Go.Proofs.SlLaysF0.n6 Tryd.prog Tryd.laysSlF06_f102_ren := {
  mixed := by kernel_rfl
  f6 := ⟨Tryd.f102.name, by decide, Tryd.func102.trans (congrArg some (by kernel_rfl))⟩
  f14 := ⟨Tryd.f133.name, by decide, Tryd.func133.trans (congrArg some (by kernel_rfl))⟩
  f15 := Tryd.func134.trans (congrArg some (by kernel_rfl))
  f20 := ⟨Tryd.f147.name, by decide, Tryd.func147.trans (congrArg some (by kernel_rfl))⟩
  f21 := ⟨Tryd.f148.name, by decide, Tryd.func148.trans (congrArg some (by kernel_rfl))⟩
  f22 := ⟨Tryd.f149.name, by decide, Tryd.func149.trans (congrArg some (by kernel_rfl))⟩
  f23 := ⟨Tryd.f150.name, by decide, Tryd.func150.trans (congrArg some (by kernel_rfl))⟩
  f24 := ⟨Tryd.f151.name, by decide, Tryd.func151.trans (congrArg some (by kernel_rfl))⟩
  f25 := ⟨Tryd.f152.name, by decide, Tryd.func152.trans (congrArg some (by kernel_rfl))⟩
  f26 := ⟨Tryd.f153.name, by decide, Tryd.func153.trans (congrArg some (by kernel_rfl))⟩
  f27 := ⟨Tryd.f154.name, by decide, Tryd.func154.trans (congrArg some (by kernel_rfl))⟩
  f28 := Tryd.func155.trans (congrArg some (by kernel_rfl))
  f29 := Tryd.func156.trans (congrArg some (by kernel_rfl))
  f46 := ⟨Tryd.f178.name, by decide, Tryd.func178.trans (congrArg some (by kernel_rfl))⟩
  f47 := Tryd.func179.trans (congrArg some (by kernel_rfl))
  f48 := Tryd.func180.trans (congrArg some (by kernel_rfl))
  f49 := ⟨Tryd.f181.name, by decide, Tryd.func181.trans (congrArg some (by kernel_rfl))⟩
  f50 := ⟨Tryd.f182.name, by decide, Tryd.func182.trans (congrArg some (by kernel_rfl))⟩
  f57 := ⟨Tryd.f199.name, by decide, Tryd.func199.trans (congrArg some (by kernel_rfl))⟩
  t0 := Tryd.underlying0
  a0 := Tryd.isAgg0
  z0 := Tryd.sizeOf0
  v0 := Tryd.zeroValue0
  t3 := Tryd.underlying3
  a3 := Tryd.isAgg3
  z3 := Tryd.sizeOf3
  v3 := Tryd.zeroValue3
  t4 := Tryd.underlying4
  a4 := Tryd.isAgg4
  z4 := Tryd.sizeOf4
  v4 := Tryd.zeroValue4
  t5 := Tryd.underlying5
  a5 := Tryd.isAgg5
  z5 := Tryd.sizeOf5
  v5 := Tryd.zeroValue5
  t9 := Tryd.underlying9
  a9 := Tryd.isAgg9
  z9 := Tryd.sizeOf9
  v9 := Tryd.zeroValue9
  t22 := Tryd.underlying46
  a22 := Tryd.isAgg46
  z22 := Tryd.sizeOf46
  v22 := Tryd.zeroValue46
  t25 := Tryd.underlying97
  a25 := Tryd.isAgg97
  z25 := Tryd.sizeOf97
  v25 := Tryd.zeroValue97
  t39 := Tryd.underlying168
  a39 := Tryd.isAgg168
  z39 := Tryd.sizeOf168
  v39 := Tryd.zeroValue168
  t45 := Tryd.underlying189
  a45 := Tryd.isAgg189
  z45 := Tryd.sizeOf189
  v45 := Tryd.zeroValue189
  t46 := Tryd.underlying190
  a46 := Tryd.isAgg190
  z46 := Tryd.sizeOf190
  v46 := Tryd.zeroValue190
  t50 := Tryd.underlying114
  a50 := Tryd.isAgg114
  z50 := Tryd.sizeOf114
  v50 := Tryd.zeroValue114
  t53 := Tryd.underlying196
  a53 := Tryd.isAgg196
  z53 := Tryd.sizeOf196
  v53 := Tryd.zeroValue196
  t55 := Tryd.underlying198
  a55 := Tryd.isAgg198
  z55 := Tryd.sizeOf198
  v55 := Tryd.zeroValue198
  t66 := Tryd.underlying210
  a66 := Tryd.isAgg210
  z66 := Tryd.sizeOf210
  v66 := Tryd.zeroValue210
  t70 := Tryd.underlying213
  a70 := Tryd.isAgg213
  z70 := Tryd.sizeOf213
  v70 := Tryd.zeroValue213
  t76 := Tryd.underlying228
  a76 := Tryd.isAgg228
  z76 := Tryd.sizeOf228
  v76 := Tryd.zeroValue228
  t77 := Tryd.underlying229
  a77 := Tryd.isAgg229
  z77 := Tryd.sizeOf229
  v77 := Tryd.zeroValue229 }
def Tryd.laysSlF06_f113_ren : Go.Shelf.Ren := ⟨fun | 6 => 113 | 15 => 134 | 14 => 140 | 28 => 155 | 29 => 156 | 20 => 165 | 21 => 166 | 22 => 167 | 23 => 168 | 24 => 169 | 25 => 170 | 26 => 171 | 27 => 172 | 46 => 186 | 47 => 179 | 48 => 180 | 49 => 187 | 50 => 188 | 57 => 200 | n => n, fun | 22 => 59 | 24 => 91 | 25 => 152 | 3 => 3 | 39 => 168 | 0 => 0 | 53 => 196 | 55 => 198 | 4 => 4 | 46 => 190 | 45 => 189 | 50 => 114 | 5 => 5 | 9 => 9 | 66 => 210 | 70 => 213 | 76 => 228 | 77 => 229 | n => n, fun | n => n⟩
theorem Tryd.laysSlF06_f113 : Go.Proofs.SlLaysF0.n6 Tryd.prog Tryd.laysSlF06_f113_ren := {
  mixed := by kernel_rfl
  f6 := ⟨Tryd.f113.name, by decide, Tryd.func113.trans (congrArg some (by kernel_rfl))⟩
  f14 := ⟨Tryd.f140.name, by decide, Tryd.func140.trans (congrArg some (by kernel_rfl))⟩
  f15 := Tryd.func134.trans (congrArg some (by kernel_rfl))
  f20 := ⟨Tryd.f165.name, by decide, Tryd.func165.trans (congrArg some (by kernel_rfl))⟩
  f21 := ⟨Tryd.f166.name, by decide, Tryd.func166.trans (congrArg some (by kernel_rfl))⟩
  f22 := ⟨Tryd.f167.name, by decide, Tryd.func167.trans (congrArg some (by kernel_rfl))⟩
  f23 := ⟨Tryd.f168.name, by decide, Tryd.func168.trans (congrArg some (by kernel_rfl))⟩
  f24 := ⟨Tryd.f169.name, by decide, Tryd.func169.trans (congrArg some (by kernel_rfl))⟩
  f25 := ⟨Tryd.f170.name, by decide, Tryd.func170.trans (congrArg some (by kernel_rfl))⟩
  f26 := ⟨Tryd.f171.name, by decide, Tryd.func171.trans (congrArg some (by kernel_rfl))⟩
  f27 := ⟨Tryd.f172.name, by decide, Tryd.func172.trans (congrArg some (by kernel_rfl))⟩
  f28 := Tryd.func155.trans (congrArg some (by kernel_rfl))
  f29 := Tryd.func156.trans (congrArg some (by kernel_rfl))
  f46 := ⟨Tryd.f186.name, by decide, Tryd.func186.trans (congrArg some (by kernel_rfl))⟩
  f47 := Tryd.func179.trans (congrArg some (by kernel_rfl))
  f48 := Tryd.func180.trans (congrArg some (by kernel_rfl))
  f49 := ⟨Tryd.f187.name, by decide, Tryd.func187.trans (congrArg some (by kernel_rfl))⟩
  f50 := ⟨Tryd.f188.name, by decide, Tryd.func188.trans (congrArg some (by kernel_rfl))⟩
  f57 := ⟨Tryd.f200.name, by decide, Tryd.func200.trans (congrArg some (by kernel_rfl))⟩
  t0 := Tryd.underlying0
  a0 := Tryd.isAgg0
  z0 := Tryd.sizeOf0
  v0 := Tryd.zeroValue0
  t3 := Tryd.underlying3
  a3 := Tryd.isAgg3
  z3 := Tryd.sizeOf3
  v3 := Tryd.zeroValue3
  t4 := Tryd.underlying4
  a4 := Tryd.isAgg4
  z4 := Tryd.sizeOf4
  v4 := Tryd.zeroValue4
  t5 := Tryd.underlying5
  a5 := Tryd.isAgg5
  z5 := Tryd.sizeOf5
  v5 := Tryd.zeroValue5
  t9 := Tryd.underlying9
  a9 := Tryd.isAgg9
  z9 := Tryd.sizeOf9
  v9 := Tryd.zeroValue9
  t22 := Tryd.underlying59
  a22 := Tryd.isAgg59
  z22 := Tryd.sizeOf59
  v22 := Tryd.zeroValue59
  t25 := Tryd.underlying152
  a25 := Tryd.isAgg152
  z25 := Tryd.sizeOf152
  v25 := Tryd.zeroValue152
  t39 := Tryd.underlying168
  a39 := Tryd.isAgg168
  z39 := Tryd.sizeOf168
  v39 := Tryd.zeroValue168
  t45 := Tryd.underlying189
  a45 := Tryd.isAgg189
  z45 := Tryd.sizeOf189
  v45 := Tryd.zeroValue189
  t46 := Tryd.underlying190
  a46 := Tryd.isAgg190
  z46 := Tryd.sizeOf190
  v46 := Tryd.zeroValue190
  t50 := Tryd.underlying114
  a50 := Tryd.isAgg114
  z50 := Tryd.sizeOf114
  v50 := Tryd.zeroValue114
  t53 := Tryd.underlying196
  a53 := Tryd.isAgg196
  z53 := Tryd.sizeOf196
  v53 := Tryd.zeroValue196
  t55 := Tryd.underlying198
  a55 := Tryd.isAgg198
  z55 := Tryd.sizeOf198
  v55 := Tryd.zeroValue198
  t66 := Tryd.underlying210
  a66 := Tryd.isAgg210
  z66 := Tryd.sizeOf210
  v66 := Tryd.zeroValue210
  t70 := Tryd.underlying213
  a70 := Tryd.isAgg213
  z70 := Tryd.sizeOf213
  v70 := Tryd.zeroValue213
  t76 := Tryd.underlying228
  a76 := Tryd.isAgg228
  z76 := Tryd.sizeOf228
  v76 := Tryd.zeroValue228
  t77 := Tryd.underlying229
  a77 := Tryd.isAgg229
  z77 := Tryd.sizeOf229
  v77 := Tryd.zeroValue229 }
open Go.RowKit Go.Lib Go.Sort in
/-- **slices.SortFunc, IN THE DOCUMENTATION's OWN TERMS: A PERMUTATION OF WHAT THE ROW HELD, SORTED BY 'cmp(a, b) < 0'.** Which of two equals comes first is left open ("The sort is not guaranteed to be stable"). (LAID AT THE INSTANCE 'slices.SortFunc[[]tithe/api.Frac,tithe/api.Frac]': no walk: one application.) -/
theorem Tryd.slices_SortFunc_f102 {α : Type} [Inhabited α] (k : Nat) (aE : ∀ w, (isAgg (Tryd.laysSlF06_f102_ren.t 24)).run Tryd.prog w = .ok true w) (zE : ∀ w, (Go.sizeOf (Tryd.laysSlF06_f102_ren.t 24)).run Tryd.prog w = .ok k w) (enc : α → List Value) (hk : ∀ x, (enc x).length = k) (h1 : ∀ x, ∀ v ∈ enc x, v.oneCell' = true) (cf : α → α → Int) (hO : SWO (ltOf cf)) (g : Nat) (cb : Array Value) (blk off cap : Nat) (d : Array α) (w : World) (eg : ∀ args w, (callFunc g args).run Tryd.prog w = .ok (.enter g args) w) (hcmp : CmpLays Tryd.prog g cb enc k cf blk off d.size w) (hH : HoldsK enc k w blk off d) (hblk : blk < w.heap.size) (hsz : d.size < 4611686018427387904) :
    Calls Tryd.prog 102 #[.slice (some ⟨blk, off, none⟩) d.size cap, .func (.func g) #[] cb] w fun e w' =>
      e = .returned (.tuple #[]) ∧ ∃ d' n os, PermIn 0 d.size d d' ∧ SortedIn (ltOf cf) 0 d.size d' ∧ w' = sortWorldK enc k w blk off n d' os := AnyQ.slices_SortFunc Tryd.laysSlF06_f102 k aE zE enc hk h1 cf hO g cb blk off cap d w eg hcmp hH hblk hsz
open Go.RowKit Go.Lib Go.Sort in
/-- **slices.SortFunc, IN THE DOCUMENTATION's OWN TERMS: A PERMUTATION OF WHAT THE ROW HELD, SORTED BY 'cmp(a, b) < 0'.** Which of two equals comes first is left open ("The sort is not guaranteed to be stable"). (LAID AT THE INSTANCE 'slices.SortFunc[[]tithe/api.Span,tithe/api.Span]': no walk: one application.) -/
theorem Tryd.slices_SortFunc_f113 {α : Type} [Inhabited α] (k : Nat) (aE : ∀ w, (isAgg (Tryd.laysSlF06_f113_ren.t 24)).run Tryd.prog w = .ok true w) (zE : ∀ w, (Go.sizeOf (Tryd.laysSlF06_f113_ren.t 24)).run Tryd.prog w = .ok k w) (enc : α → List Value) (hk : ∀ x, (enc x).length = k) (h1 : ∀ x, ∀ v ∈ enc x, v.oneCell' = true) (cf : α → α → Int) (hO : SWO (ltOf cf)) (g : Nat) (cb : Array Value) (blk off cap : Nat) (d : Array α) (w : World) (eg : ∀ args w, (callFunc g args).run Tryd.prog w = .ok (.enter g args) w) (hcmp : CmpLays Tryd.prog g cb enc k cf blk off d.size w) (hH : HoldsK enc k w blk off d) (hblk : blk < w.heap.size) (hsz : d.size < 4611686018427387904) :
    Calls Tryd.prog 113 #[.slice (some ⟨blk, off, none⟩) d.size cap, .func (.func g) #[] cb] w fun e w' =>
      e = .returned (.tuple #[]) ∧ ∃ d' n os, PermIn 0 d.size d d' ∧ SortedIn (ltOf cf) 0 d.size d' ∧ w' = sortWorldK enc k w blk off n d' os := AnyQ.slices_SortFunc Tryd.laysSlF06_f113 k aE zE enc hk h1 cf hO g cb blk off cap d w eg hcmp hH hblk hsz
open Go.RowKit Go.Lib Go.Sort in
/-- **slices.SortFunc AT NO ELEMENT, A nil SLICE TOO: nothing turns.** (LAID AT THE INSTANCE 'slices.SortFunc[[]tithe/api.Frac,tithe/api.Frac]': no walk: one application.) -/
theorem Tryd.slices_SortFunc_none_f102 {α : Type} [Inhabited α] (p : Option Addr) (cap : Nat) (fv : Value) (w : World) :
    Calls Tryd.prog 102 #[.slice p 0 cap, fv] w fun e w' => e = .returned (.tuple #[]) ∧ w' = w := AnyF.slices_SortFunc_none Tryd.laysSlF06_f102 p cap fv w
open Go.RowKit Go.Lib Go.Sort in
/-- **slices.SortFunc AT NO ELEMENT, A nil SLICE TOO: nothing turns.** (LAID AT THE INSTANCE 'slices.SortFunc[[]tithe/api.Span,tithe/api.Span]': no walk: one application.) -/
theorem Tryd.slices_SortFunc_none_f113 {α : Type} [Inhabited α] (p : Option Addr) (cap : Nat) (fv : Value) (w : World) :
    Calls Tryd.prog 113 #[.slice p 0 cap, fv] w fun e w' => e = .returned (.tuple #[]) ∧ w' = w := AnyF.slices_SortFunc_none Tryd.laysSlF06_f113 p cap fv w
end Go.Proofs
