/- The walk of the chapter's examples (tithelaw1.first): it answers true. -/
import Derived.Test.YtmankldedhgdiaaDoorFracF
import Derived.Deep.DrawnRows
import Derived.LaidEqlPtr
import Derived.LaidEql
namespace Go.Proofs.YtmankldedhgdiaaDoor
open Go.RowKit

theorem resF_ok {E : Nat → Addr} {r : Except Nat Rat} {q : Rat} {n d a b : Int} {err : Value} (h : ResF E r n d err) (hr : r = .ok q) (hn : q.num = a) (hd : (q.den : Int) = b) : n = a ∧ d = b ∧ err = .nilIface := by
  subst hr; obtain ⟨h1, h2, h3⟩ := h; exact ⟨h1.trans hn, h2.trans hd, h3⟩
theorem resF_err {E : Nat → Addr} {r : Except Nat Rat} {g : Nat} {n d : Int} {err : Value} (h : ResF E r n d err) (hr : r = .error g) : n = 0 ∧ d = 0 ∧ err = .iface 122 (.pointer (some (E g))) := by
  subst hr; exact h
theorem keepH {W w1 : World} (hb : Below W.heap.size W w1) {g : Nat} {x : Obj} (h : W.heap[g]? = some x) : Hid (w1.heap[g]? = some x) := by
  have hlt : g < W.heap.size := by
    rcases Nat.lt_or_ge g W.heap.size with hl | hge
    · exact hl
    · rw [Array.getElem?_eq_none hge] at h; cases h
  exact (hb.block g hlt).trans h
theorem cellH {w : World} {g : Nat} {cs : Array Value} {t : TypeId} (h : Hid (w.heap[g]? = some (.cells cs t (0, 0)))) : ∀ o, w.cell? ⟨g, o, none⟩ = cs[o]? := fun o => cell_of_row w g o cs t (0, 0) h
/-- a step from one world to the next, by a name of its own -/
def Step (W w1 : World) : Prop := Below W.heap.size W w1
theorem keepS {W w1 : World} (hb : Step W w1) {g : Nat} {x : Obj} (h : W.heap[g]? = some x) : w1.heap[g]? = some x := keepH hb h
theorem setH2 {w : World} {g : Nat} {x y u v : Value} {t : TypeId} (h : w.heap[g]? = some (.cells #[x, y] t (0, 0))) : Hid (((w.setCell ⟨g, 0, none⟩ u).setCell ⟨g, 1, none⟩ v).heap[g]? = some (.cells #[u, v] t (0, 0))) := by
  show _ = _
  simp [World.setCell, Array.getElem?_modify, h]
theorem lt_of_H {w : World} {g : Nat} {x : Obj} (h : Hid (w.heap[g]? = some x)) : g < w.heap.size := by
  rcases Nat.lt_or_ge g w.heap.size with hl | hge
  · exact hl
  · have := h.out; rw [Array.getElem?_eq_none hge] at this; cases this
theorem setH2o {w : World} {g k : Nat} {o : Obj} {u v : Value} (h : Hid (w.heap[k]? = some o)) (hne : k ≠ g) : Hid (((w.setCell ⟨g, 0, none⟩ u).setCell ⟨g, 1, none⟩ v).heap[k]? = some o) := by
  show _ = _
  rw [Below.heap_setCell _ _ _ _ hne, Below.heap_setCell _ _ _ _ hne]; exact h
theorem drew_old {w : World} {g : Nat} {x : Option Obj} (h : w.heap[g]? = x) : w.drew.heap[g]? = x := h
theorem ltH {w : World} {g : Nat} {x : Obj} (h : Hid (w.heap[g]? = some x)) : g < w.heap.size ∧ g < w.heap.size + 1 ∧ g < w.heap.size + 1 + 1 := by
  have hlt : g < w.heap.size := by
    rcases Nat.lt_or_ge g w.heap.size with hl | hge
    · exact hl
    · have := h.out; rw [Array.getElem?_eq_none hge] at this; cases this
  omega
theorem frozH {w : World} {g : Nat} {cs : Array Value} {t : TypeId} (h : Hid (w.heap[g]? = some (.cells cs t (0, 0)))) : ∀ o, w.frozen? ⟨g, o, none⟩ = false := fun o => by
  have h' : w.heap[g]? = some (.cells cs t (0, 0)) := h
  simp [World.frozen?, h']
theorem stepH {w W w1 : World} (hw : Below w.heap.size w W) (hb : Below W.heap.size W w1) : Below w.heap.size w w1 := hw.trans (hb.mono hw.size)

theorem info62 : (Tryd.prog.info? 122).map (·.comparable) = some true := by kernel_rfl
theorem info80 : (Tryd.prog.info? 139).map (·.size) = some 1 := by kernel_rfl
/-- two interface values that hold one pointer -/
theorem eql_err (a : Addr) (w : World) : (binOp .eql 34 (.iface 122 (.pointer (some a))) (.iface 122 (.pointer (some a)))).run Tryd.prog w = .ok (.bool true) w := by
  obtain ⟨i, hi, hc⟩ := Option.map_eq_some_iff.1 info62
  obtain ⟨j, hj, _⟩ := Option.map_eq_some_iff.1 info80
  exact run_eql_iface_ptr_same w a Tryd.underlying34 Tryd.underlying122 hi hc hj
set_option maxRecDepth 100000 in
theorem eql_nil (a : Addr) (w : World) : (binOp .eql 34 (.iface 122 (.pointer (some a))) .nilIface).run Tryd.prog w = .ok (.bool false) w := by
  exact run_eql_held_nil w _ _ _ Tryd.underlying34

theorem goodR_ok {q : Rat} (h : decide (Good q) = true) : goodR q = .ok q := by unfold goodR; rw [if_pos (of_decide_eq_true h)]
theorem goodR_no {q : Rat} (h : decide (Good q) = false) : goodR q = .error 5 := by unfold goodR; rw [if_neg (of_decide_eq_false h)]
theorem ex1 : makeR (6) (-4) = .ok (Rat.divInt 6 (-4)) := by
  unfold makeR; rw [if_neg (by decide)]; exact goodR_ok (by decide +kernel)
theorem ex2 : makeR (-9223372036854775808) (-9223372036854775808) = .ok (Rat.divInt (-9223372036854775808) (-9223372036854775808)) := by
  unfold makeR; rw [if_neg (by decide)]; exact goodR_ok (by decide +kernel)
theorem ex3 : makeR (1) (0) = .error 4 := by
  unfold makeR; rw [if_pos rfl]
theorem ex4 : opI addR 1 2 1 3 = .ok (Rat.divInt 1 2 + Rat.divInt 1 3) := by
  unfold opI; rw [if_pos (by decide +kernel)]; exact goodR_ok (by decide +kernel)
theorem ex5 : opI addR 1 1000000 1 999999 = .error 5 := by
  unfold opI; rw [if_pos (by decide +kernel)]; exact goodR_no (by decide +kernel)
theorem ex6 : opI divR 1 2 (-3) 4 = .ok (Rat.divInt 1 2 / Rat.divInt (-3) 4) := by
  unfold opI; rw [if_pos (by decide +kernel)]; unfold divR; rw [if_neg (by decide +kernel)]; exact goodR_ok (by decide +kernel)

theorem first_cmp (w : World) : Calls Tryd.prog 43 #[.agg #[.int .i64 1, .int .i64 3], .agg #[.int .i64 333333, .int .i64 1000000]] w fun e w' => e = .returned (.int .i64 1) ∧ Below w.heap.size w w' := by
  have h := cmp_any (Rat.divInt 1 3) (Rat.divInt 333333 1000000) w (by decide +kernel) (by decide +kernel)
  rw [show (Rat.divInt 1 3).num = 1 by decide +kernel, show (Rat.divInt 1 3).den = 3 by decide +kernel, show (Rat.divInt 333333 1000000).num = 333333 by decide +kernel, show (Rat.divInt 333333 1000000).den = 1000000 by decide +kernel, show cmpQ (Rat.divInt 1 3) (Rat.divInt 333333 1000000) = 1 by decide +kernel] at h
  exact h
theorem first_valid (w : World) : Calls Tryd.prog 46 #[.agg #[.int .i64 2, .int .i64 4]] w fun e w' => e = .returned (.bool false) ∧ Below w.heap.size w w' := by
  have h := fracValid_any 2 4 w (by omega) (by omega) (by omega) (by omega)
  rw [show validB 2 4 = false by decide +kernel] at h
  exact h
theorem first_same (n d : Int) (w : World) : Calls Tryd.prog 23 #[.agg #[.int .i64 n, .int .i64 d], .agg #[.int .i64 n, .int .i64 d]] w fun e w' => e = .returned (.bool true) ∧ Below w.heap.size w w' := by
  have h := same_any n d n d w
  rw [show (n == n && d == d) = true by simp] at h
  exact h

end Go.Proofs.YtmankldedhgdiaaDoor
