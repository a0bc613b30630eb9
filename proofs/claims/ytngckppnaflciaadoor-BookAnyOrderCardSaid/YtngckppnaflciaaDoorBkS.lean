/- Book.Register, Get: walks. -/
import Derived.Test.YtngckppnaflciaaDoorBkR
import Derived.Deep.RegionHeldLaw
import Derived.Deep.DeepCutAuto
namespace Go.Proofs.YtngckppnaflciaaDoor
open Go.RowKit Go.Maps

theorem errB_some (E : Nat → Addr) (g : Nat) : errB E (some g) = .iface 133 (.pointer (some (E g))) := rfl

set_option maxRecDepth 100000 in
set_option maxHeartbeats 4000000 in
theorem register_closed (b M : Nat) (S : List Pv) (p : Pv) (A : Option Addr) (c : Nat) (E : Nat → Addr) (w : World) (h : BookAt w b M true S) (hE : Env LB E w) :
    Calls Tryd.prog 8 #[.pointer (some ⟨b, 0, none⟩), pvV p A c] w fun e w' => e = .returned (errB E (some 1)) ∧ Below w.heap.size w w' := by
  have BX := Lib.hid h.box
  have cB := cellH BX
  have cC := hE.cell 1 (by decide)
  have lC := World.block_lt_of_cell? _ _ cC
  obtain ⟨lB, lB1, lB2⟩ := ltH BX
  clear h hE
  unfold pvV
  go_enter Tryd.func8, Tryd.ntmps8
  have cB2 := fun o => cell_alloc (o := o) (cB 1)
  have cC2 := fun o => cell_alloc (o := o) cC
  go_wp2_with fail
  go_ret
  exact ⟨rfl, by (repeat' (first | with_reducible exact Below.refl _ _ | with_reducible assumption | with_reducible refine Below.drew ?_ | with_reducible refine below_drewN ?_ _ | with_reducible refine Below.setCell ?_ ?_ _ | with_reducible refine Below.alloc ?_ ?_ _ | omega | (simp; done) | (simp; omega)))⟩

set_option maxRecDepth 100000 in
set_option maxHeartbeats 4000000 in
theorem register_bad (b M : Nat) (S : List Pv) (p : Pv) (A : Option Addr) (c : Nat) (g : Nat) (E : Nat → Addr) (m : Int) (w : World) (h : BookAt w b M false S) (hE : Env LB E w)
    (hm : w.cell? ⟨12, 0, none⟩ = some (.int .i64 m)) (hI : PvW p) (hA : PvAt w w.heap.size p A c) (hx : validE p = some g) :
    Calls Tryd.prog 8 #[.pointer (some ⟨b, 0, none⟩), pvV p A c] w fun e w' => e = .returned (errB E (some g)) ∧ Below w.heap.size w w' := by
  have BX := Lib.hid h.box
  have cB := cellH BX
  obtain ⟨lB, lB1, lB2⟩ := ltH BX
  have HV := Lib.hid (fun (W : World) (k : Below w.heap.size w W) => pvalid_is p A c (some g) E m W (hE.below k) (cell_at hm k) hI (hA.step k) hx)
  clear h hE hm hA hx
  unfold pvV at *
  have hne := fun W => eql_nil (E g) W
  go_enter Tryd.func8, Tryd.ntmps8
  have cB2 := fun o => cell_alloc (o := o) (cB 1)
  go_wp2_with fail
  refine (HV.out _ (by (repeat' (first | with_reducible exact Below.refl _ _ | with_reducible assumption | with_reducible refine Below.drew ?_ | with_reducible refine below_drewN ?_ _ | with_reducible refine Below.setCell ?_ ?_ _ | with_reducible refine Below.alloc ?_ ?_ _ | omega | (simp; done) | (simp; omega))))).mono ?_
  rintro e w1 ⟨rfl, hb1⟩
  have hw1 : Below w.heap.size w w1 := stepH (by (repeat' (first | with_reducible exact Below.refl _ _ | with_reducible assumption | with_reducible refine Below.drew ?_ | with_reducible refine below_drewN ?_ _ | with_reducible refine Below.setCell ?_ ?_ _ | with_reducible refine Below.alloc ?_ ?_ _ | omega | (simp; done) | (simp; omega)))) hb1
  rw [errB_some]
  go_wp2_with fail
  go_ret
  exact ⟨rfl, hw1⟩

set_option maxRecDepth 100000 in
set_option maxHeartbeats 8000000 in
theorem register_twice (b M : Nat) (S : List Pv) (p q : Pv) (A : Option Addr) (c : Nat) (E : Nat → Addr) (m : Int) (w : World) (h : BookAt w b M false S) (hE : Env LB E w)
    (hm : w.cell? ⟨12, 0, none⟩ = some (.int .i64 m)) (hI : PvIn p) (hA : PvAt w w.heap.size p A c) (hx : validE p = none) (hq : q ∈ S) (hid : q.id = p.id) :
    Calls Tryd.prog 8 #[.pointer (some ⟨b, 0, none⟩), pvV p A c] w fun e w' => e = .returned (errB E (some 0)) ∧ Below w.heap.size w w' := by
  have BX := Lib.hid h.box
  have cB := cellH BX
  obtain ⟨lB, lB1, lB2⟩ := ltH BX
  have HE := Lib.hid hE
  have HV := Lib.hid (fun (W : World) (k : Below w.heap.size w W) => pvalid_is p A c none E m W (hE.below k) (cell_at hm k) hI.w (hA.step k) hx)
  obtain ⟨D, hown, hr⟩ := h.own
  obtain ⟨A', c', _, HF⟩ := hr.find hq
  rw [hid] at HF
  have HFF := Lib.hid HF
  have HO := Lib.hid hown
  clear h hE hm hA hx hown hr hid HF
  unfold pvV at *
  go_enter Tryd.func8, Tryd.ntmps8
  have cB2 := fun o => cell_alloc (o := o) (cB 1)
  go_wp2_with fail
  refine (HV.out _ (by (repeat' (first | with_reducible exact Below.refl _ _ | with_reducible assumption | with_reducible refine Below.drew ?_ | with_reducible refine below_drewN ?_ _ | with_reducible refine Below.setCell ?_ ?_ _ | with_reducible refine Below.alloc ?_ ?_ _ | omega | (simp; done) | (simp; omega))))).mono ?_
  rintro e w1 ⟨rfl, hb1⟩
  have hw1 : Below w.heap.size w w1 := stepH (by (repeat' (first | with_reducible exact Below.refl _ _ | with_reducible assumption | with_reducible refine Below.drew ?_ | with_reducible refine below_drewN ?_ _ | with_reducible refine Below.setCell ?_ ?_ _ | with_reducible refine Below.alloc ?_ ?_ _ | omega | (simp; done) | (simp; omega)))) hb1
  have P1 := keepH hb1 (g := w.heap.size) (blk_new rfl)
  have B1 := keepH hb1 (blk_old BX.out)
  have HO1 : Hid (w1.ownsMap Tryd.prog 9 RV M S.length D) := Lib.hid (HO.out.kept (row := none) ⟨hw1.os, hw1.tape, hw1.output, hw1.size, fun i hi _ => hw1.block i hi⟩ (by simp))
  clear hb1 cB cB2 BX HO HV
  rw [show errB E none = .nilIface from rfl]
  go_upto_region 6 with fail
  go_cut [7] (fun s7 wx => s7 = .bool true ∧ Below w1.heap.size w1 wx)
  case first =>
    have x0 : w1.cell? ⟨b, 0, none⟩ = some (.map (some M)) := cellH B1 0
    have x1 : w1.cell? ⟨w.heap.size, 0, none⟩ = some (.string p.id) := cellH P1 0
    have x2 := HO1.out
    have hl := fun W h => (HFF.out W S.length M h).1
    have lb : b < w1.heap.size := lt_of_H B1
    have lp : w.heap.size < w1.heap.size := lt_of_H P1
    have lm : M < w1.heap.size := HO1.out.lt
    go_region_held3 (fun w' => w'.cell? ⟨b, 0, none⟩ = some (.map (some M)) ∧ w'.cell? ⟨w.heap.size, 0, none⟩ = some (.string p.id) ∧ w'.ownsMap Tryd.prog 9 RV M S.length D) (first | exact ⟨x0, x1, x2⟩ | exact ⟨cell_alloc x0, cell_alloc x1, x2.alloc _⟩)
      (fail)
    all_goals go_wp2_with fail
    all_goals go_meet
    all_goals exact ⟨rfl, by (repeat' (first | with_reducible exact Below.refl _ _ | with_reducible assumption | with_reducible refine Below.drew ?_ | with_reducible refine below_drewN ?_ _ | with_reducible refine Below.setCell ?_ ?_ _ | with_reducible refine Below.alloc ?_ ?_ _ | omega | (simp; done) | (simp; omega)))⟩
  case rest =>
    obtain ⟨rfl, hb2⟩ := hcut
    have hw2 := stepH hw1 hb2
    have cT := (HE.out.below hw2).cell 0 (by decide)
    go_wp2_with fail
    go_ret
    exact ⟨rfl, hw2⟩
end Go.Proofs.YtngckppnaflciaaDoor
