/- Changes as values, an amendment in memory: None, may, made, what a change does: walks. -/
import Derived.Test.YtmoeoomlggjaaaaGreatDoorAmA
import Derived.Maps.OwnSet
import Derived.Maps.Views
import Derived.Maps.OwnOps
import Derived.StringKeys
import Derived.Sort.KeysCollected
namespace Go.Proofs.YtmoeoomlggjaaaaGreatDoor
open Go.RowKit Go.Maps

theorem lawS : Keyed Tryz.prog 9 := string_keyed Tryz.underlying9
def keyS (s : ByteArray) : Lit := .string s.data.toList
theorem strL_lit (x : List UInt8) : WideAt.IsKeyLit (.string x) := by unfold WideAt.IsKeyLit; simp
theorem keyS_of {s : ByteArray} (h : s.size ≤ maxLen) : keyOf Tryz.prog 9 (.string s) = some (keyS s) := WideMaps.keyOf_string_mk Tryz.underlying9 h
theorem ba_inj {s t : ByteArray} (h : s.data.toList = t.data.toList) : s = t := ByteArray.ext (Array.ext' h)
/-- an element of a map is read as it stands -/
def RV (v : Value) : Option (DataW Value × List MemPlace) := some (.held v, [])
theorem RV_inv {v : Value} {d : DataW Value} {ps : List MemPlace} (h : RV v = some (d, ps)) : d = .held v := by unfold RV at h; injection h with h; injection h with h1 h2; exact h1.symm
def LA : List Nat := [2, 3, 0, 1]
def errA (E : Nat → Addr) : Option Nat → Value
  | none => .nilIface
  | some g => .iface 184 (.pointer (some (E g)))
def In8 (n : Int) : Prop := -9223372036854775808 ≤ n ∧ n ≤ 9223372036854775807

/-- a change -/
structure Ch where
  name : ByteArray
  clear : Bool
  n : Int
  d : Int
def chL (c : Ch) : List Value := [.string c.name, .bool c.clear, .int .i64 c.n, .int .i64 c.d]
def chV (c : Ch) : Value := .agg #[.string c.name, .bool c.clear, .int .i64 c.n, .int .i64 c.d]
def nmb (c : Ch) : List UInt8 := c.name.data.toList
/-- the function that does it -/
def doF (c : Ch) : Nat := if c.clear then 64 else 65
/-- a change as a map's element: its box lies in block g -/
def enV (c : Ch) (g : Nat) : Value := .agg #[.string c.name, .bool c.clear, .int .i64 c.n, .int .i64 c.d, .func (.func (doF c)) #[] #[.pointer (some ⟨g, 0, none⟩)]]
def BoxC (w : World) (g : Nat) (c : Ch) : Prop := w.heap[g]? = some (.cells #[.string c.name, .bool c.clear, .int .i64 c.n, .int .i64 c.d] 41 (0, 0))

/-- a change's fault -/
def mayE (c : Ch) : Option Nat := if inB c.name = false then some 2 else if c.clear = true then (if c.n = 0 ∧ c.d = 0 then none else some 3) else (if validB c.n c.d = true then none else some 3)

set_option maxRecDepth 10000 in
set_option maxHeartbeats 4000000 in
theorem may_is (name : ByteArray) (n d : Int) (cl : Bool) (x : Option Nat) (E : Nat → Addr) (m : Int) (w : World) (hE : Env LA E w) (hm : w.cell? ⟨4, 0, none⟩ = some (.int .i64 m)) (hn : In8 n) (hd : In8 d) (hx : mayE ⟨name, cl, n, d⟩ = x) :
    Calls Tryz.prog 44 #[.agg #[.string name, .bool cl, .int .i64 n, .int .i64 d]] w fun e w' => e = .returned (errA E x) ∧ Below w.heap.size w w' := by
  have HE := Lib.hid hE
  have HM := Lib.hid hm
  unfold mayE at hx
  dsimp only at hx
  clear hE hm
  cases hi : inB name with
  | false =>
    have e1 : x = some 2 := by rw [← hx]; simp [hi]
    subst e1
    clear hx
    have HI := Lib.hid hi
    clear hi
    go_enter Tryz.func44, Tryz.ntmps44
    go_wp2_with fail
    refine (input_is name false m _ (cell_at HM.out (by (repeat' (first | with_reducible exact Below.refl _ _ | with_reducible assumption | with_reducible refine Below.drew ?_ | with_reducible refine below_drewN ?_ _ | with_reducible refine Below.setCell ?_ ?_ _ | with_reducible refine Below.alloc ?_ ?_ _ | omega | (simp; done) | (simp; omega))))) HI.out).mono ?_
    rintro e w1 ⟨rfl, hb1⟩
    have hw1 : Below w.heap.size w w1 := stepH (by (repeat' (first | with_reducible exact Below.refl _ _ | with_reducible assumption | with_reducible refine Below.drew ?_ | with_reducible refine below_drewN ?_ _ | with_reducible refine Below.setCell ?_ ?_ _ | with_reducible refine Below.alloc ?_ ?_ _ | omega | (simp; done) | (simp; omega)))) hb1
    have cE := (HE.out.below hw1).cell 2 (by decide)
    go_wp2_with fail
    go_ret
    exact ⟨rfl, hw1⟩
  | true =>
    have HI := Lib.hid hi
    cases cl with
    | true =>
      by_cases h0 : n = 0
      · subst h0
        by_cases h1 : d = 0
        · subst h1
          have e1 : x = none := by rw [← hx]; simp [hi]
          subst e1
          clear hx hi
          go_enter Tryz.func44, Tryz.ntmps44
          go_wp2_with fail
          refine (input_is name true m _ (cell_at HM.out (by (repeat' (first | with_reducible exact Below.refl _ _ | with_reducible assumption | with_reducible refine Below.drew ?_ | with_reducible refine below_drewN ?_ _ | with_reducible refine Below.setCell ?_ ?_ _ | with_reducible refine Below.alloc ?_ ?_ _ | omega | (simp; done) | (simp; omega))))) HI.out).mono ?_
          rintro e w1 ⟨rfl, hb1⟩
          have hw1 : Below w.heap.size w w1 := stepH (by (repeat' (first | with_reducible exact Below.refl _ _ | with_reducible assumption | with_reducible refine Below.drew ?_ | with_reducible refine below_drewN ?_ _ | with_reducible refine Below.setCell ?_ ?_ _ | with_reducible refine Below.alloc ?_ ?_ _ | omega | (simp; done) | (simp; omega)))) hb1
          have B1 := keepH hb1 (g := w.heap.size) (blk_new rfl)
          have cB := cellH B1
          go_wp2_with fail
          go_ret
          exact ⟨rfl, hw1⟩
        · have e1 : x = some 3 := by rw [← hx]; simp [hi, h1]
          have h2 : (d != 0) = true := by simpa using h1
          subst e1
          clear hx hi h1
          go_enter Tryz.func44, Tryz.ntmps44
          go_wp2_with fail
          refine (input_is name true m _ (cell_at HM.out (by (repeat' (first | with_reducible exact Below.refl _ _ | with_reducible assumption | with_reducible refine Below.drew ?_ | with_reducible refine below_drewN ?_ _ | with_reducible refine Below.setCell ?_ ?_ _ | with_reducible refine Below.alloc ?_ ?_ _ | omega | (simp; done) | (simp; omega))))) HI.out).mono ?_
          rintro e w1 ⟨rfl, hb1⟩
          have hw1 : Below w.heap.size w w1 := stepH (by (repeat' (first | with_reducible exact Below.refl _ _ | with_reducible assumption | with_reducible refine Below.drew ?_ | with_reducible refine below_drewN ?_ _ | with_reducible refine Below.setCell ?_ ?_ _ | with_reducible refine Below.alloc ?_ ?_ _ | omega | (simp; done) | (simp; omega)))) hb1
          have B1 := keepH hb1 (g := w.heap.size) (blk_new rfl)
          have cB := cellH B1
          have cE := (HE.out.below hw1).cell 3 (by decide)
          go_wp2_with fail
          go_ret
          exact ⟨rfl, hw1⟩
      · have e1 : x = some 3 := by rw [← hx]; simp [hi, h0]
        have h2 : (n != 0) = true := by simpa using h0
        subst e1
        clear hx hi h0
        go_enter Tryz.func44, Tryz.ntmps44
        go_wp2_with fail
        refine (input_is name true m _ (cell_at HM.out (by (repeat' (first | with_reducible exact Below.refl _ _ | with_reducible assumption | with_reducible refine Below.drew ?_ | with_reducible refine below_drewN ?_ _ | with_reducible refine Below.setCell ?_ ?_ _ | with_reducible refine Below.alloc ?_ ?_ _ | omega | (simp; done) | (simp; omega))))) HI.out).mono ?_
        rintro e w1 ⟨rfl, hb1⟩
        have hw1 : Below w.heap.size w w1 := stepH (by (repeat' (first | with_reducible exact Below.refl _ _ | with_reducible assumption | with_reducible refine Below.drew ?_ | with_reducible refine below_drewN ?_ _ | with_reducible refine Below.setCell ?_ ?_ _ | with_reducible refine Below.alloc ?_ ?_ _ | omega | (simp; done) | (simp; omega)))) hb1
        have B1 := keepH hb1 (g := w.heap.size) (blk_new rfl)
        have cB := cellH B1
        have cE := (HE.out.below hw1).cell 3 (by decide)
        go_wp2_with fail
        go_ret
        exact ⟨rfl, hw1⟩
    | false =>
      cases hv : validB n d with
      | true =>
        have e1 : x = none := by rw [← hx]; simp [hi, hv]
        subst e1
        have HV := Lib.hid hv
        clear hx hi hv
        go_enter Tryz.func44, Tryz.ntmps44
        go_wp2_with fail
        refine (input_is name true m _ (cell_at HM.out (by (repeat' (first | with_reducible exact Below.refl _ _ | with_reducible assumption | with_reducible refine Below.drew ?_ | with_reducible refine below_drewN ?_ _ | with_reducible refine Below.setCell ?_ ?_ _ | with_reducible refine Below.alloc ?_ ?_ _ | omega | (simp; done) | (simp; omega))))) HI.out).mono ?_
        rintro e w1 ⟨rfl, hb1⟩
        have hw1 : Below w.heap.size w w1 := stepH (by (repeat' (first | with_reducible exact Below.refl _ _ | with_reducible assumption | with_reducible refine Below.drew ?_ | with_reducible refine below_drewN ?_ _ | with_reducible refine Below.setCell ?_ ?_ _ | with_reducible refine Below.alloc ?_ ?_ _ | omega | (simp; done) | (simp; omega)))) hb1
        have B1 := keepH hb1 (g := w.heap.size) (blk_new rfl)
        have cB := cellH B1
        go_wp2_with fail
        refine (valid_is n d true _ HV.out hn.1 hn.2 hd.1 hd.2).mono ?_
        rintro e w2 ⟨rfl, hb2⟩
        have hw2 : Below w.heap.size w w2 := stepH hw1 hb2
        go_wp2_with fail
        go_ret
        exact ⟨rfl, hw2⟩
      | false =>
        have e1 : x = some 3 := by rw [← hx]; simp [hi, hv]
        subst e1
        have HV := Lib.hid hv
        clear hx hi hv
        go_enter Tryz.func44, Tryz.ntmps44
        go_wp2_with fail
        refine (input_is name true m _ (cell_at HM.out (by (repeat' (first | with_reducible exact Below.refl _ _ | with_reducible assumption | with_reducible refine Below.drew ?_ | with_reducible refine below_drewN ?_ _ | with_reducible refine Below.setCell ?_ ?_ _ | with_reducible refine Below.alloc ?_ ?_ _ | omega | (simp; done) | (simp; omega))))) HI.out).mono ?_
        rintro e w1 ⟨rfl, hb1⟩
        have hw1 : Below w.heap.size w w1 := stepH (by (repeat' (first | with_reducible exact Below.refl _ _ | with_reducible assumption | with_reducible refine Below.drew ?_ | with_reducible refine below_drewN ?_ _ | with_reducible refine Below.setCell ?_ ?_ _ | with_reducible refine Below.alloc ?_ ?_ _ | omega | (simp; done) | (simp; omega)))) hb1
        have B1 := keepH hb1 (g := w.heap.size) (blk_new rfl)
        have cB := cellH B1
        go_wp2_with fail
        refine (valid_is n d false _ HV.out hn.1 hn.2 hd.1 hd.2).mono ?_
        rintro e w2 ⟨rfl, hb2⟩
        have hw2 : Below w.heap.size w w2 := stepH hw1 hb2
        have cE := (HE.out.below hw2).cell 3 (by decide)
        go_wp2_with fail
        go_ret
        exact ⟨rfl, hw2⟩

end Go.Proofs.YtmoeoomlggjaaaaGreatDoor
