/- Ranges over functions: what a round keeps, blocks carried over it; no program in sight. -/
import Derived.Test.YtmoeoomlggjaaaaGreatDoorSlice
import Derived.Lib.Hide
import Derived.RangeFuncNested
import Derived.RangeFuncBound
import Derived.RangeFuncCalls
import Derived.RangeFuncLeaves
import Derived.RangeFuncBox
import Derived.Shelf.Abstract
import Derived.Shelf.RegionOpen
import Derived.WalkKit
import Derived.OwnWalkIn
import Derived.TacticsInMore
import Derived.LoopNIn
import Derived.LoopIn
import Derived.Sort.CutIn
import Derived.Stop.RegionWithIn
namespace Go.Proofs.YtmoeoomlggjaaaaGreatDoor
open Go.RowKit Go.Shelf

/-- what a round of a loop over an iterator keeps: all that lies below m, and the blocks from lo on, ahead of hi -/
structure KeepR (m lo hi : Nat) (W W' : World) : Prop where
  below : Below m W W'
  mid : ∀ k, lo ≤ k → k < hi → W'.heap[k]? = W.heap[k]?

theorem KeepR.refl (m lo hi : Nat) (W : World) : KeepR m lo hi W W := ⟨Below.refl _ _, fun _ _ _ => rfl⟩
theorem KeepR.trans {m lo hi : Nat} {A B C : World} (h : KeepR m lo hi A B) (k : KeepR m lo hi B C) : KeepR m lo hi A C := ⟨h.below.trans k.below, fun i a b => (k.mid i a b).trans (h.mid i a b)⟩
theorem KeepR.ofBelow {m lo hi : Nat} {W W' : World} (h : Below W.heap.size W W') (hm : m ≤ W.heap.size) (hh : hi ≤ W.heap.size) : KeepR m lo hi W W' := ⟨h.mono hm, fun k _ hk => h.block k (by omega)⟩
theorem keepR_b {m lo hi : Nat} {w : World} (hm : m ≤ w.heap.size) (hh : hi ≤ w.heap.size) (W : World) (l : Nat) (o o' : Obj) (hl : w.heap.size ≤ l) (h : W.heap[l]? = some o) (_ : o.isCells = false) (_ : o.isWalk = false) : KeepR m lo hi W (W.putObj l o') :=
  ⟨(Below.refl m W).grown (grownBy_putObj' W l o') (by have := (Array.getElem?_eq_some_iff.1 h).1; omega) (fun k e => by cases e; omega), fun k _ hk => (grownBy_putObj' W l o').block k (by have := (Array.getElem?_eq_some_iff.1 h).1; omega) (fun e => by injection e; omega)⟩

theorem grown_of_below {W W' : World} (h : Below W.heap.size W W') : W.grownBy W' none := ⟨h.os, h.tape, h.output, h.size, fun k hk _ => h.block k hk⟩
theorem abide {β : Type} {B : Nat} {J : β → World → Prop} (hJ : AbidesFrom B J) {s : β} {W W' : World} (h : J s W) (hb : Below W.heap.size W W') : J s W' := hJ s W W' none h (grown_of_below hb) (fun r e => by cases e)
theorem ownB {β : Type} {B g : Nat} {cs : β → Array Value} {t : TypeId} {z : Nat × Nat} : OwnFrom B (fun (s : β) W => W.heap[g]? = some (.cells (cs s) t z)) := fun s W W' row hs hg hr =>
  (hg.block g (Array.getElem?_eq_some_iff.1 hs).1 (fun e => by obtain ⟨_, o, ho, hc⟩ := hr g e.symm; rw [hs] at ho; cases ho; cases hc)).trans hs

theorem ownBlk {B g : Nat} {cs : Array Value} {t : TypeId} {z : Nat × Nat} {W W' : World} {row : Option Nat} (hs : W.heap[g]? = some (.cells cs t z)) (hg : W.grownBy W' row) (hr : ∀ r, row = some r → B ≤ r ∧ ∃ o : Obj, W.heap[r]? = some o ∧ o.isCells = false) : W'.heap[g]? = some (.cells cs t z) :=
  ownB (β := Unit) (B := B) (cs := fun _ => cs) () W W' row hs hg hr

theorem setOther {w : World} {p : Addr} {u : Value} {k : Nat} {x : Option Obj} (h : w.heap[k]? = x) (hne : k ≠ p.block) : (w.setCell p u).heap[k]? = x := (Below.heap_setCell w p u k hne).trans h
theorem setBox {w : World} {g : Nat} {x : Value} {t : TypeId} (h : w.heap[g]? = some (.cells #[x] t (0, 0))) (u : Value) : (w.setCell ⟨g, 0, none⟩ u).heap[g]? = some (.cells #[u] t (0, 0)) := Boxed.set u h

/-- nothing turns but the blocks of L, and new ones come -/
structure OnlyL (L : List Nat) (W W' : World) : Prop where
  os : W'.os = W.os
  tape : W'.tape = W.tape
  output : W'.output = W.output
  size : W.heap.size ≤ W'.heap.size
  block : ∀ k, k < W.heap.size → k ∉ L → W'.heap[k]? = W.heap[k]?

section
variable {L : List Nat} {a w w' : World}
theorem OnlyL.refl (L : List Nat) (w : World) : OnlyL L w w := ⟨rfl, rfl, rfl, Nat.le_refl _, fun _ _ _ => rfl⟩
theorem OnlyL.trans {b : World} (h : OnlyL L a b) (k : OnlyL L b w) : OnlyL L a w := ⟨k.os.trans h.os, k.tape.trans h.tape, k.output.trans h.output, Nat.le_trans h.size k.size, fun i hi hn => (k.block i (by have := h.size; omega) hn).trans (h.block i hi hn)⟩
theorem OnlyL.step (h : OnlyL L a w) (hb : Below w.heap.size w w') : OnlyL L a w' := ⟨hb.os.trans h.os, hb.tape.trans h.tape, hb.output.trans h.output, Nat.le_trans h.size hb.size, fun i hi hn => (hb.block i (by have := h.size; omega)).trans (h.block i hi hn)⟩
theorem OnlyL.drew (h : OnlyL L a w) : OnlyL L a w.drew := ⟨h.os, h.tape, h.output, h.size, h.block⟩
theorem OnlyL.drewN (h : OnlyL L a w) (n : Nat) : OnlyL L a (w.drewN n) := ⟨h.os, h.tape, h.output, h.size, h.block⟩
theorem OnlyL.alloc (h : OnlyL L a w) (o : Obj) : OnlyL L a (w.alloc o) := h.step ((Below.refl _ _).alloc (Nat.le_refl _) o)
theorem OnlyL.setCell {p : Addr} (h : OnlyL L a w) (hp : p.block ∈ L ∨ a.heap.size ≤ p.block) (u : Value) : OnlyL L a (w.setCell p u) :=
  have hb : Below 0 w (w.setCell p u) := (Below.refl 0 w).setCell (Nat.zero_le _) u
  ⟨hb.os.trans h.os, hb.tape.trans h.tape, hb.output.trans h.output, Nat.le_trans h.size hb.size, fun k hk hn => (Below.heap_setCell w p u k (fun e => by rcases hp with h1 | h1; exact hn (e ▸ h1); omega)).trans (h.block k hk hn)⟩
theorem OnlyL.grown {row : Option Nat} (h : OnlyL L a w) (hg : w.grownBy w' row) (hr : ∀ k, row = some k → k ∈ L ∨ a.heap.size ≤ k) : OnlyL L a w' :=
  ⟨hg.os.trans h.os, hg.tape.trans h.tape, hg.output.trans h.output, Nat.le_trans h.size hg.size, fun k hk hn => (hg.block k (by have := h.size; omega) (fun e => by rcases hr k e.symm with h1 | h1; exact hn h1; omega)).trans (h.block k hk hn)⟩
theorem OnlyL.from (h : OnlyL L a w) (B : Nat) (hc : ∀ k ∈ L, ∃ cs t z, a.heap[k]? = some (.cells cs t z)) : KeepsFrom B a w := ⟨h.size, fun k o _ hk ho => by
  by_cases hm : k ∈ L
  · obtain ⟨cs, t, z, e⟩ := hc k hm
    rw [e] at hk; cases hk; cases ho
  · exact (h.block k (Array.getElem?_eq_some_iff.1 hk).1 hm).trans hk⟩
theorem OnlyL.below {m : Nat} (h : OnlyL L a w) (hm : m ≤ a.heap.size) (hL : ∀ k ∈ L, m ≤ k) : Below m a w := ⟨h.os, h.tape, h.output, h.size, fun k hk => h.block k (by omega) (fun e => by have := hL k e; omega)⟩
theorem OnlyL.all (h : OnlyL [] a w) : Below a.heap.size a w := h.below (Nat.le_refl _) (fun k hk => by cases hk)
theorem OnlyL.keepR {m lo hi : Nat} (h : OnlyL L a w) (hm : m ≤ a.heap.size) (hh : hi ≤ a.heap.size) (hL : ∀ k ∈ L, m ≤ k ∧ (k < lo ∨ hi ≤ k)) : KeepR m lo hi a w := ⟨h.below hm (fun k e => (hL k e).1), fun k h1 h2 => h.block k (by omega) (fun e => by have := hL k e; omega)⟩
theorem OnlyL.keep {k : Nat} {x : Obj} (h : OnlyL L a w) (hx : a.heap[k]? = some x) (hn : k ∉ L) : w.heap[k]? = some x := (h.block k (Array.getElem?_eq_some_iff.1 hx).1 hn).trans hx
end

theorem wide_open {n m : Nat} {P : Program} {f : FuncId} {args : Array Value} {w : World} {R : Ending → World → Prop} (h : Calls P f args w R) : Fence.wide.fn f ∧ (Fence.wide.depth.isSome = true → 1 ≤ n) ∧ CallsIn Fence.wide m P f args w R := ⟨trivial, (fun hd => by cases hd), callsIn_wide.2 h⟩
theorem wide_open2 {m : Nat} {P : Program} {f : FuncId} {args : Array Value} {w : World} {R : Ending → World → Prop} (h : Calls P f args w R) : Fence.wide.fn f ∧ CallsIn Fence.wide m P f args w R := ⟨trivial, callsIn_wide.2 h⟩
theorem round_open2 {l m : Nat} {P : Program} {f : FuncId} {args : Array Value} {w : World} {R : Ending → World → Prop} (h : Calls P f args w R) : (Fence.wide.inRound l).fn f ∧ CallsIn (Fence.wide.inRound l) m P f args w R := ⟨trivial, CallsIn.inRound l (callsIn_wide.2 h)⟩
theorem round_open3 {l n m : Nat} {P : Program} {f : FuncId} {args : Array Value} {w : World} {R : Ending → World → Prop} (h : Calls P f args w R) : Fence.wide.fn f ∧ (Fence.wide.depth.isSome = true → 1 ≤ n) ∧ CallsIn (Fence.wide.inRound l) m P f args w R := ⟨trivial, (fun hd => by cases hd), CallsIn.inRound l (callsIn_wide.2 h)⟩
theorem round_open4 {l m : Nat} {P : Program} {f : FuncId} {args : Array Value} {w : World} {R : Ending → World → Prop} (h : Calls P f args w R) : Fence.wide.fn f ∧ CallsIn (Fence.wide.inRound l) m P f args w R := ⟨trivial, CallsIn.inRound l (callsIn_wide.2 h)⟩
theorem round_open {l n m : Nat} {P : Program} {f : FuncId} {args : Array Value} {w : World} {R : Ending → World → Prop} (h : Calls P f args w R) : (Fence.wide.inRound l).fn f ∧ ((Fence.wide.inRound l).depth.isSome = true → 1 ≤ n) ∧ CallsIn (Fence.wide.inRound l) m P f args w R := ⟨trivial, (fun hd => by cases hd), CallsIn.inRound l (callsIn_wide.2 h)⟩

end Go.Proofs.YtmoeoomlggjaaaaGreatDoor
