/- Words that serve any program: sentinels, blocks kept, cells, slices of the call's own. -/
import Derived.Test.YtmoeoomlggjaaaaGreatDoorProg
import Derived.Test.YtmoeoomlggjaaaaGreatDoorSeq
import Derived.WalkSpells
import Derived.WalkLawsBesides
import Derived.Deep.QuietTactic
import Derived.BigQuiet
import Derived.Lib.Hide
import Derived.LaidEqlPtr
import Derived.LaidEql
import Derived.OwnWalk
namespace Go.Proofs.YtmoeoomlggjaaaaGreatDoor
open Go.RowKit

/-- a sentinel's variable -/
def Sent (E : Nat → Addr) (g : Nat) (w : World) : Prop :=
  w.cell? ⟨g, 0, none⟩ = some (.iface 184 (.pointer (some (E g)))) ∧ g < w.heap.size ∧ (E g).block < w.heap.size ∧ ∃ c t, w.heap[(E g).block]? = some (.cells c t (0, 0))
theorem Sent.below {E : Nat → Addr} {g : Nat} {w w' : World} (h : Sent E g w) (hb : Below w.heap.size w w') : Sent E g w' := by
  obtain ⟨h1, h2, h3, c, t, h4⟩ := h
  have := hb.size
  exact ⟨(hb.cell h2).trans h1, by omega, by omega, c, t, (hb.block _ h3).trans h4⟩
/-- sentinels, by their variables' numbers: each lies in its variable, and they differ -/
structure Env (L : List Nat) (E : Nat → Addr) (w : World) : Prop where
  sent : ∀ g ∈ L, Sent E g w
  inj : ∀ g ∈ L, ∀ h ∈ L, E g = E h → g = h
theorem Env.below {L : List Nat} {E : Nat → Addr} {w w' : World} (h : Env L E w) (hb : Below w.heap.size w w') : Env L E w' := ⟨fun g hg => (h.sent g hg).below hb, h.inj⟩
theorem Env.cell {L : List Nat} {E : Nat → Addr} {w : World} (h : Env L E w) (g : Nat) (hg : g ∈ L) : w.cell? ⟨g, 0, none⟩ = some (.iface 184 (.pointer (some (E g)))) := (h.sent g hg).1
theorem Env.sub {L L' : List Nat} {E : Nat → Addr} {w : World} (h : Env L E w) (hs : ∀ g ∈ L', g ∈ L) : Env L' E w := ⟨fun g hg => h.sent g (hs g hg), fun g hg k hk e => h.inj g (hs g hg) k (hs k hk) e⟩

theorem below_drewN {B : Nat} {a w : World} (h : Below B a w) (n : Nat) : Below B a (w.drewN n) := ⟨h.os, h.tape, h.output, h.size, h.block⟩
theorem bcell {W w1 : World} (hb : Below W.heap.size W w1) : (∀ b o, b < W.heap.size → w1.cell? ⟨b, o, none⟩ = W.cell? ⟨b, o, none⟩) ∧ (∀ b o, b < W.heap.size → w1.frozen? ⟨b, o, none⟩ = W.frozen? ⟨b, o, none⟩) ∧ W.heap.size ≤ w1.heap.size :=
  ⟨fun b o h => hb.cell (p := ⟨b, o, none⟩) h, fun b o h => hb.frozen (p := ⟨b, o, none⟩) h, hb.size⟩
theorem cellOf {W w1 : World} (hb : Below W.heap.size W w1) {p : Addr} {v : Value} (h : W.cell? p = some v) : w1.cell? p = some v := by
  have hlt : p.block < W.heap.size := by
    rcases Nat.lt_or_ge p.block W.heap.size with hl | hge
    · exact hl
    · simp [World.cell?, Array.getElem?_eq_none hge] at h
  exact (hb.cell hlt).trans h
theorem cell_lt {w : World} {p : Addr} {v : Value} (h : w.cell? p = some v) : p.block < w.heap.size := by
  rcases Nat.lt_or_ge p.block w.heap.size with hl | hge
  · exact hl
  · simp [World.cell?, Array.getElem?_eq_none hge] at h
theorem cell_alloc {w : World} {o : Obj} {p : Addr} {v : Value} (h : w.cell? p = some v) : (w.alloc o).cell? p = some v := by
  have hlt : p.block < w.heap.size := by
    rcases Nat.lt_or_ge p.block w.heap.size with hl | hge
    · exact hl
    · simp [World.cell?, Array.getElem?_eq_none hge] at h
  exact (World.cell?_alloc_lt w o p hlt).trans h
theorem cell_set {w : World} {p q : Addr} {u v : Value} (h : w.cell? p = some v) (hne : p.block ≠ q.block) : (w.setCell q u).cell? p = some v :=
  (World.cell?_of_block (w := w) (a := p) (Below.heap_setCell w q u p.block hne)).trans h
theorem cell_drew {w : World} {p : Addr} {v : Value} (h : w.cell? p = some v) : w.drew.cell? p = some v := h
theorem cell_drewN {w : World} {p : Addr} {v : Value} {n : Nat} (h : w.cell? p = some v) : (w.drewN n).cell? p = some v := h
theorem blk_new {w : World} {o : Obj} {n : Nat} (h : w.heap.size = n) : (w.alloc o).heap[n]? = some o := by subst h; exact heap_alloc_new w o
theorem blk_old {w : World} {o x : Obj} {g : Nat} (h : w.heap[g]? = some x) : (w.alloc o).heap[g]? = some x := by
  have hlt : g < w.heap.size := by
    rcases Nat.lt_or_ge g w.heap.size with hl | hge
    · exact hl
    · rw [Array.getElem?_eq_none hge] at h; cases h
  exact (Below.heap_alloc w o g hlt).trans h
/-- a block that was known whole before a call is known behind it -/
theorem keepB {W w1 : World} (hb : Below W.heap.size W w1) {g : Nat} {cs : Array Value} {t : TypeId} (h : W.heap[g]? = some (.cells cs t (0, 0))) :
    (∀ o, w1.cell? ⟨g, o, none⟩ = cs[o]?) ∧ (∀ o, w1.frozen? ⟨g, o, none⟩ = false) ∧ g < w1.heap.size := by
  have hlt : g < W.heap.size := by
    rcases Nat.lt_or_ge g W.heap.size with hl | hge
    · exact hl
    · rw [Array.getElem?_eq_none hge] at h; cases h
  have h1 : w1.heap[g]? = some (.cells cs t (0, 0)) := (hb.block g hlt).trans h
  refine ⟨fun o => cell_of_row w1 g o cs t (0, 0) h1, fun o => by simp [World.frozen?, h1], ?_⟩
  have := hb.size
  omega
theorem ret_int {k : IntKind} {a b : Int} (h : a = b) : Ending.returned (.int k a) = .returned (.int k b) := by rw [h]
theorem ret_bool {a b : Bool} (h : a = b) : Ending.returned (.bool a) = .returned (.bool b) := by rw [h]
theorem gcd_step (x y : Nat) : Nat.gcd y (x % y) = Nat.gcd x y := by
  rw [Nat.gcd_comm x y, Nat.gcd_rec y x, Nat.gcd_comm]
theorem keepH {W w1 : World} (hb : Below W.heap.size W w1) {g : Nat} {x : Obj} (h : W.heap[g]? = some x) : Hid (w1.heap[g]? = some x) := by
  have hlt : g < W.heap.size := by
    rcases Nat.lt_or_ge g W.heap.size with hl | hge
    · exact hl
    · rw [Array.getElem?_eq_none hge] at h; cases h
  exact (hb.block g hlt).trans h
theorem cellH {w : World} {g : Nat} {cs : Array Value} {t : TypeId} (h : Hid (w.heap[g]? = some (.cells cs t (0, 0)))) : ∀ o, w.cell? ⟨g, o, none⟩ = cs[o]? := fun o => cell_of_row w g o cs t (0, 0) h
theorem setH2 {w : World} {g : Nat} {x y u v : Value} {t : TypeId} (h : w.heap[g]? = some (.cells #[x, y] t (0, 0))) : Hid (((w.setCell ⟨g, 0, none⟩ u).setCell ⟨g, 1, none⟩ v).heap[g]? = some (.cells #[u, v] t (0, 0))) := by
  show _ = _
  simp [World.setCell, Array.getElem?_modify, h]
theorem lt_of_H {w : World} {g : Nat} {x : Obj} (h : Hid (w.heap[g]? = some x)) : g < w.heap.size := by
  rcases Nat.lt_or_ge g w.heap.size with hl | hge
  · exact hl
  · have := h.out; rw [Array.getElem?_eq_none hge] at this; cases this
theorem setH2o {w : World} {g k : Nat} {o : Obj} {u v : Value} (h : Hid (w.heap[k]? = some o)) (hne : k ≠ g) : Hid (((w.setCell ⟨g, 0, none⟩ u).setCell ⟨g, 1, none⟩ v).heap[k]? = some o) := by
  show _ = _
  rw [Below.heap_setCell _ _ _ _ hne, Below.heap_setCell _ _ _ _ hne]; exact h
theorem drew_old {w : World} {g : Nat} {x : Option Obj} (h : w.heap[g]? = x) : w.drew.heap[g]? = x := h
theorem ltH {w : World} {g : Nat} {x : Obj} (h : Hid (w.heap[g]? = some x)) : g < w.heap.size ∧ g < w.heap.size + 1 ∧ g < w.heap.size + 1 + 1 := by
  have hlt : g < w.heap.size := by
    rcases Nat.lt_or_ge g w.heap.size with hl | hge
    · exact hl
    · have := h.out; rw [Array.getElem?_eq_none hge] at this; cases this
  omega
theorem frozH {w : World} {g : Nat} {cs : Array Value} {t : TypeId} (h : Hid (w.heap[g]? = some (.cells cs t (0, 0)))) : ∀ o, w.frozen? ⟨g, o, none⟩ = false := fun o => by
  have h' : w.heap[g]? = some (.cells cs t (0, 0)) := h
  simp [World.frozen?, h']
theorem stepH {w W w1 : World} (hw : Below w.heap.size w W) (hb : Below W.heap.size W w1) : Below w.heap.size w w1 := hw.trans (hb.mono hw.size)

theorem info62 : (Tryz.prog.info? 184).map (·.comparable) = some true := by kernel_rfl
theorem info80 : (Tryz.prog.info? 202).map (·.size) = some 1 := by kernel_rfl
/-- two interface values that hold one pointer -/
theorem eql_err (a : Addr) (w : World) : (binOp .eql 26 (.iface 184 (.pointer (some a))) (.iface 184 (.pointer (some a)))).run Tryz.prog w = .ok (.bool true) w := by
  obtain ⟨i, hi, hc⟩ := Option.map_eq_some_iff.1 info62
  obtain ⟨j, hj, _⟩ := Option.map_eq_some_iff.1 info80
  exact run_eql_iface_ptr_same w a Tryz.underlying26 Tryz.underlying184 hi hc hj
set_option maxRecDepth 100000 in
theorem eql_nil (a : Addr) (w : World) : (binOp .eql 26 (.iface 184 (.pointer (some a))) .nilIface).run Tryz.prog w = .ok (.bool false) w := by
  exact run_eql_held_nil w _ _ _ Tryz.underlying26
theorem take_snoc {α : Type} {l : List α} {k : Nat} {x : α} (hx : l[k]? = some x) : l.take (k + 1) = l.take k ++ [x] := by
  rw [List.take_add_one, hx]; rfl
theorem own_set {W : World} {base e size g n cap i : Nat} {xs : List Value} (h : W.ownsRow base e size (.slice (some ⟨g, 0, none⟩) n cap) n xs) (_hi : i < n * size) (u : Value) : (W.setCell ⟨g, i, none⟩ u).ownsRow base e size (.slice (some ⟨g, 0, none⟩) n cap) n (xs.set i u) := by
  obtain ⟨hlen, hc⟩ := h
  rcases hc with ⟨h0, _⟩ | ⟨g', cap', cur, hv, hb, hg, h1, h2, h3, h4⟩
  · cases h0
  cases hv
  refine ⟨by rw [List.length_set]; exact hlen, .inr ⟨g, _, cur.setIfInBounds i u, rfl, hb, ?_, h1, h2, by rw [Array.size_setIfInBounds]; exact h3, ?_⟩⟩
  · simp [World.setCell, Array.getElem?_modify, hg]
  · rw [Array.toList_setIfInBounds, List.take_set, h4]
theorem own_cells {α : Type} {enc : α → List Value} {size e base : Nat} {w : World} {v : Value} {l : List α} (hs : ∀ x ∈ l, (enc x).length = size) (hl : l ≠ []) (h : Own enc size e base w v l) : ∃ g c, v = .slice (some ⟨g, 0, none⟩) l.length c ∧ base ≤ g ∧ l.length ≤ c ∧ RowAt enc size w w.heap.size (some ⟨g, 0, none⟩) l ∧ ∀ o, w.frozen? ⟨g, o, none⟩ = false := by
  obtain ⟨A, c, hv, hc, _, hr⟩ := Own.rows hs h
  obtain ⟨hlen, hcc⟩ := h
  rcases hcc with ⟨h0, h1⟩ | ⟨g, cp, cur, hv', hb, hg, _⟩
  · exact absurd (List.eq_nil_of_length_eq_zero h1) hl
  · rw [hv'] at hv
    cases hv
    exact ⟨g, c, hv', hb, hc, hr, fun o => by simp [World.frozen?, hg]⟩
theorem own_line {α : Type} {enc : α → List Value} {size e base : Nat} {w : World} {v : Value} {l : List α} (hs : ∀ x ∈ l, (enc x).length = size) (h : Own enc size e base w v l) : ∃ A c, v = .slice A l.length c ∧ RowAt enc size w w.heap.size A l ∧ (A = none → c = 0) ∧ (∀ a, A = some a → base ≤ a.block) := by
  obtain ⟨A, c, hv, _, _, hr⟩ := Own.rows hs h
  refine ⟨A, c, hv, hr, fun hA => ?_, fun a ha => ?_⟩
  · rcases h.2 with ⟨h0, _⟩ | ⟨g, cp, cur, hv', _⟩
    · rw [h0] at hv; injection hv with _ _ h3; exact h3.symm
    · rw [hv'] at hv; injection hv with h1; rw [hA] at h1; cases h1
  · rcases h.2 with ⟨h0, _⟩ | ⟨g, cp, cur, hv', hb, _⟩
    · rw [h0] at hv; injection hv with h1; rw [ha] at h1; cases h1
    · rw [hv'] at hv; injection hv with h1; rw [ha] at h1; cases h1; exact hb
theorem own_setOther {w : World} {base e size n : Nat} {v : Value} {xs : List Value} {g o : Nat} {u : Value} (h : w.ownsRow base e size v n xs) (hne : ∀ b, v.ownBlock = some b → b ≠ g) : (w.setCell ⟨g, o, none⟩ u).ownsRow base e size v n xs := by
  obtain ⟨h1, h2⟩ := h
  refine ⟨h1, ?_⟩
  rcases h2 with h2 | ⟨g', cap, cur, hv, hb, hg, h3⟩
  · exact .inl h2
  · exact .inr ⟨g', cap, cur, hv, hb, setOther hg (by subst hv; exact hne g' rfl), h3⟩
/-- a place of a row of the call's own -/
theorem own_at {W : World} {base e size g n cap i : Nat} {xs : List Value} (h : W.ownsRow base e size (.slice (some ⟨g, 0, none⟩) n cap) n xs) (hi : i < n * size) : (∃ u, W.cell? ⟨g, i, none⟩ = some u) ∧ W.frozen? ⟨g, i, none⟩ = false := by
  obtain ⟨hlen, hc⟩ := h
  rcases hc with ⟨h0, _⟩ | ⟨g', cap', cur, hv, hb, hg, h1, h2, h3, h4⟩
  · cases h0
  cases hv
  constructor
  · rw [cell_of_row W g i _ _ (0, 0) hg]
    have hi2 : i < cur.size := by rw [h3]; exact Nat.lt_of_lt_of_le hi (Nat.mul_le_mul_right _ h1)
    exact ⟨_, Array.getElem?_eq_getElem hi2⟩
  · simp [World.frozen?, hg]

/-- what such a row holds -/
theorem own_val {W : World} {base e size g n cap i : Nat} {xs : List Value} {u : Value} (h : W.ownsRow base e size (.slice (some ⟨g, 0, none⟩) n cap) n xs) (hi : i < n * size) (hu : xs[i]? = some u) : W.cell? ⟨g, i, none⟩ = some u := by
  obtain ⟨hlen, hc⟩ := h
  rcases hc with ⟨h0, _⟩ | ⟨g', cap', cur, hv, hb, hg, h1, h2, h3, h4⟩
  · cases h0
  cases hv
  rw [cell_of_row W g i _ _ (0, 0) hg]
  rw [← h4, List.getElem?_take_of_lt hi] at hu
  simpa using hu

/-- two cells of it are written over -/
theorem own_over {W : World} {base e g n cap k : Nat} {v : Value} {xs : List Value} (hv : v = .slice (some ⟨g, 0, none⟩) n cap) (h : W.ownsRow base e 2 v n xs) (hk : k < n) (a b : Value) : ((W.setCell ⟨g, k * 2, none⟩ a).setCell ⟨g, k * 2 + 1, none⟩ b).ownsRow base e 2 v n ((xs.set (k * 2) a).set (k * 2 + 1) b) := by
  subst hv
  exact own_set (own_set h (by omega) a) (by omega) b

end Go.Proofs.YtmoeoomlggjaaaaGreatDoor
