/- prov.repeal: a walk. -/
import Derived.Test.YtngckppnaflciaaDoorBkF
namespace Go.Proofs.YtngckppnaflciaaDoor
open Go.RowKit

/-- the errors' variables -/
def LB : List Nat := [0, 1, 2, 3, 4, 5, 6, 7, 8, 9, 10, 11]
def errB (E : Nat → Addr) : Option Nat → Value
  | none => .nilIface
  | some g => .iface 133 (.pointer (some (E g)))
theorem cell_at {w W : World} {a : Addr} {v : Value} (h : w.cell? a = some v) (hb : Below w.heap.size w W) : W.cell? a = some v := (hb.cell (World.block_lt_of_cell? _ _ h)).trans h
/-- what repeal tells -/
def repealE (id key : ByteArray) (rank : Int) (rep : ByteArray) (k n d : Int) (l : Nat) (r : ByteArray) (mode un ud : Int) : Option Nat :=
  if nameB rep = false then some 3 else if (rep.toList == id.toList || (!key.toList.isEmpty || (rank != 0 || (k != 0 || !unusedB k n d l r mode un ud)))) = true then some 6 else none

theorem name_is (s : ByteArray) (b : Bool) (m : Int) (w : World) (hm : w.cell? ⟨12, 0, none⟩ = some (.int .i64 m)) (h : nameB s = b) : Calls Tryd.prog 32 #[.string s] w fun e w' => e = .returned (.bool b) ∧ Below w.heap.size w w' := by
  subst h; exact name_any s m w hm

set_option maxRecDepth 10000 in
set_option maxHeartbeats 4000000 in
theorem repeal_is (id key : ByteArray) (s0 s1 ena rank : Int) (rep : ByteArray) (k n d : Int) (A : Option Addr) (l c : Nat) (r : ByteArray) (mode un ud : Int) (x : Option Nat) (E : Nat → Addr) (m : Int) (w : World) (hE : Env LB E w)
    (hm : w.cell? ⟨12, 0, none⟩ = some (.int .i64 m)) (hx : repealE id key rank rep k n d l r mode un ud = x) :
    Calls Tryd.prog 33 #[.agg #[.string id, .string key, .int .i64 s0, .int .i64 s1, .int .i64 ena, .int .i64 rank, .string rep, .int .i64 k, .int .i64 n, .int .i64 d, .slice A l c, .string r, .int .i64 mode, .int .i64 un, .int .i64 ud]] w fun e w' => e = .returned (errB E x) ∧ Below w.heap.size w w' := by
  have HM := Lib.hid hm
  have HE := Lib.hid hE
  clear hm hE
  cases hn : nameB rep with
  | false =>
    have e1 : x = some 3 := by rw [← hx]; unfold repealE; simp [hn]
    subst e1
    clear hx
    have HN := Lib.hid hn
    clear hn
    go_enter Tryd.func33, Tryd.ntmps33
    go_wp2_with fail
    refine (name_is rep _ m _ (cell_at HM.out (by (repeat' (first | with_reducible exact Below.refl _ _ | with_reducible assumption | with_reducible refine Below.drew ?_ | with_reducible refine below_drewN ?_ _ | with_reducible refine Below.setCell ?_ ?_ _ | with_reducible refine Below.alloc ?_ ?_ _ | omega | (simp; done) | (simp; omega))))) HN.out).mono ?_
    rintro e w1 ⟨rfl, hb1⟩
    have hw1 : Below w.heap.size w w1 := stepH (by (repeat' (first | with_reducible exact Below.refl _ _ | with_reducible assumption | with_reducible refine Below.drew ?_ | with_reducible refine below_drewN ?_ _ | with_reducible refine Below.setCell ?_ ?_ _ | with_reducible refine Below.alloc ?_ ?_ _ | omega | (simp; done) | (simp; omega)))) hb1
    have B1 := keepH hb1 (g := w.heap.size) (blk_new rfl)
    have cB := cellH B1
    have cN := (HE.out.below hw1).cell 3 (by decide)
    have cP := (HE.out.below hw1).cell 6 (by decide)
    go_wp2_with fail
    go_ret
    exact ⟨rfl, hw1⟩
  | true =>
    cases he : (rep.toList == id.toList) with
    | false =>
      cases hk : key.toList.isEmpty with
      | false =>
        have e1 : x = some 6 := by rw [← hx]; unfold repealE; simp [hn, he, hk]
        subst e1
        clear hx
        have HN := Lib.hid hn
        clear hn
        go_enter Tryd.func33, Tryd.ntmps33
        go_wp2_with fail
        refine (name_is rep _ m _ (cell_at HM.out (by (repeat' (first | with_reducible exact Below.refl _ _ | with_reducible assumption | with_reducible refine Below.drew ?_ | with_reducible refine below_drewN ?_ _ | with_reducible refine Below.setCell ?_ ?_ _ | with_reducible refine Below.alloc ?_ ?_ _ | omega | (simp; done) | (simp; omega))))) HN.out).mono ?_
        rintro e w1 ⟨rfl, hb1⟩
        have hw1 : Below w.heap.size w w1 := stepH (by (repeat' (first | with_reducible exact Below.refl _ _ | with_reducible assumption | with_reducible refine Below.drew ?_ | with_reducible refine below_drewN ?_ _ | with_reducible refine Below.setCell ?_ ?_ _ | with_reducible refine Below.alloc ?_ ?_ _ | omega | (simp; done) | (simp; omega)))) hb1
        have B1 := keepH hb1 (g := w.heap.size) (blk_new rfl)
        have cB := cellH B1
        have cN := (HE.out.below hw1).cell 3 (by decide)
        have cP := (HE.out.below hw1).cell 6 (by decide)
        go_wp2_with fail
        go_ret
        exact ⟨rfl, hw1⟩
      | true =>
        by_cases hr : rank = 0
        · subst hr
          by_cases h0 : k = 0
          · subst h0
            cases hu : unusedB 0 n d l r mode un ud with
            | false =>
              have e1 : x = some 6 := by rw [← hx]; unfold repealE; simp [hn, he, hk, hu]
              subst e1
              clear hx
              have HN := Lib.hid hn
              clear hn
              have HU := Lib.hid hu
              clear hu
              go_enter Tryd.func33, Tryd.ntmps33
              go_wp2_with fail
              refine (name_is rep _ m _ (cell_at HM.out (by (repeat' (first | with_reducible exact Below.refl _ _ | with_reducible assumption | with_reducible refine Below.drew ?_ | with_reducible refine below_drewN ?_ _ | with_reducible refine Below.setCell ?_ ?_ _ | with_reducible refine Below.alloc ?_ ?_ _ | omega | (simp; done) | (simp; omega))))) HN.out).mono ?_
              rintro e w1 ⟨rfl, hb1⟩
              have hw1 : Below w.heap.size w w1 := stepH (by (repeat' (first | with_reducible exact Below.refl _ _ | with_reducible assumption | with_reducible refine Below.drew ?_ | with_reducible refine below_drewN ?_ _ | with_reducible refine Below.setCell ?_ ?_ _ | with_reducible refine Below.alloc ?_ ?_ _ | omega | (simp; done) | (simp; omega)))) hb1
              have B1 := keepH hb1 (g := w.heap.size) (blk_new rfl)
              have cB := cellH B1
              have cN := (HE.out.below hw1).cell 3 (by decide)
              have cP := (HE.out.below hw1).cell 6 (by decide)
              go_wp2_with fail
              refine (unused_zero n d A l c r mode un ud false _ HU.out).mono ?_
              rintro e w9 ⟨rfl, hb9⟩
              have h9 : Below w.heap.size w w9 := stepH hw1 hb9
              have cP9 := (HE.out.below h9).cell 6 (by decide)
              go_wp2_with fail
              go_ret
              exact ⟨rfl, h9⟩
            | true =>
              have e1 : x = none := by rw [← hx]; unfold repealE; simp [hn, he, hk, hu]
              subst e1
              clear hx
              have HN := Lib.hid hn
              clear hn
              have HU := Lib.hid hu
              clear hu
              go_enter Tryd.func33, Tryd.ntmps33
              go_wp2_with fail
              refine (name_is rep _ m _ (cell_at HM.out (by (repeat' (first | with_reducible exact Below.refl _ _ | with_reducible assumption | with_reducible refine Below.drew ?_ | with_reducible refine below_drewN ?_ _ | with_reducible refine Below.setCell ?_ ?_ _ | with_reducible refine Below.alloc ?_ ?_ _ | omega | (simp; done) | (simp; omega))))) HN.out).mono ?_
              rintro e w1 ⟨rfl, hb1⟩
              have hw1 : Below w.heap.size w w1 := stepH (by (repeat' (first | with_reducible exact Below.refl _ _ | with_reducible assumption | with_reducible refine Below.drew ?_ | with_reducible refine below_drewN ?_ _ | with_reducible refine Below.setCell ?_ ?_ _ | with_reducible refine Below.alloc ?_ ?_ _ | omega | (simp; done) | (simp; omega)))) hb1
              have B1 := keepH hb1 (g := w.heap.size) (blk_new rfl)
              have cB := cellH B1
              have cN := (HE.out.below hw1).cell 3 (by decide)
              have cP := (HE.out.below hw1).cell 6 (by decide)
              go_wp2_with fail
              refine (unused_zero n d A l c r mode un ud true _ HU.out).mono ?_
              rintro e w9 ⟨rfl, hb9⟩
              have h9 : Below w.heap.size w w9 := stepH hw1 hb9
              have cP9 := (HE.out.below h9).cell 6 (by decide)
              go_wp2_with fail
              go_ret
              exact ⟨rfl, h9⟩
          · have e1 : x = some 6 := by rw [← hx]; unfold repealE; simp [hn, he, hk, h0]
            subst e1
            clear hx
            have HN := Lib.hid hn
            clear hn
            go_enter Tryd.func33, Tryd.ntmps33
            go_wp2_with fail
            refine (name_is rep _ m _ (cell_at HM.out (by (repeat' (first | with_reducible exact Below.refl _ _ | with_reducible assumption | with_reducible refine Below.drew ?_ | with_reducible refine below_drewN ?_ _ | with_reducible refine Below.setCell ?_ ?_ _ | with_reducible refine Below.alloc ?_ ?_ _ | omega | (simp; done) | (simp; omega))))) HN.out).mono ?_
            rintro e w1 ⟨rfl, hb1⟩
            have hw1 : Below w.heap.size w w1 := stepH (by (repeat' (first | with_reducible exact Below.refl _ _ | with_reducible assumption | with_reducible refine Below.drew ?_ | with_reducible refine below_drewN ?_ _ | with_reducible refine Below.setCell ?_ ?_ _ | with_reducible refine Below.alloc ?_ ?_ _ | omega | (simp; done) | (simp; omega)))) hb1
            have B1 := keepH hb1 (g := w.heap.size) (blk_new rfl)
            have cB := cellH B1
            have cN := (HE.out.below hw1).cell 3 (by decide)
            have cP := (HE.out.below hw1).cell 6 (by decide)
            go_wp2_with fail
            go_ret
            exact ⟨rfl, hw1⟩
        · have e1 : x = some 6 := by rw [← hx]; unfold repealE; simp [hn, he, hk, hr]
          subst e1
          clear hx
          have HN := Lib.hid hn
          clear hn
          go_enter Tryd.func33, Tryd.ntmps33
          go_wp2_with fail
          refine (name_is rep _ m _ (cell_at HM.out (by (repeat' (first | with_reducible exact Below.refl _ _ | with_reducible assumption | with_reducible refine Below.drew ?_ | with_reducible refine below_drewN ?_ _ | with_reducible refine Below.setCell ?_ ?_ _ | with_reducible refine Below.alloc ?_ ?_ _ | omega | (simp; done) | (simp; omega))))) HN.out).mono ?_
          rintro e w1 ⟨rfl, hb1⟩
          have hw1 : Below w.heap.size w w1 := stepH (by (repeat' (first | with_reducible exact Below.refl _ _ | with_reducible assumption | with_reducible refine Below.drew ?_ | with_reducible refine below_drewN ?_ _ | with_reducible refine Below.setCell ?_ ?_ _ | with_reducible refine Below.alloc ?_ ?_ _ | omega | (simp; done) | (simp; omega)))) hb1
          have B1 := keepH hb1 (g := w.heap.size) (blk_new rfl)
          have cB := cellH B1
          have cN := (HE.out.below hw1).cell 3 (by decide)
          have cP := (HE.out.below hw1).cell 6 (by decide)
          go_wp2_with fail
          go_ret
          exact ⟨rfl, hw1⟩
    | true =>
      have e1 : x = some 6 := by rw [← hx]; unfold repealE; simp [hn, he]
      subst e1
      clear hx
      have HN := Lib.hid hn
      clear hn
      go_enter Tryd.func33, Tryd.ntmps33
      go_wp2_with fail
      refine (name_is rep _ m _ (cell_at HM.out (by (repeat' (first | with_reducible exact Below.refl _ _ | with_reducible assumption | with_reducible refine Below.drew ?_ | with_reducible refine below_drewN ?_ _ | with_reducible refine Below.setCell ?_ ?_ _ | with_reducible refine Below.alloc ?_ ?_ _ | omega | (simp; done) | (simp; omega))))) HN.out).mono ?_
      rintro e w1 ⟨rfl, hb1⟩
      have hw1 : Below w.heap.size w w1 := stepH (by (repeat' (first | with_reducible exact Below.refl _ _ | with_reducible assumption | with_reducible refine Below.drew ?_ | with_reducible refine below_drewN ?_ _ | with_reducible refine Below.setCell ?_ ?_ _ | with_reducible refine Below.alloc ?_ ?_ _ | omega | (simp; done) | (simp; omega)))) hb1
      have B1 := keepH hb1 (g := w.heap.size) (blk_new rfl)
      have cB := cellH B1
      have cN := (HE.out.below hw1).cell 3 (by decide)
      have cP := (HE.out.below hw1).cell 6 (by decide)
      go_wp2_with fail
      go_ret
      exact ⟨rfl, hw1⟩
end Go.Proofs.YtngckppnaflciaaDoor
