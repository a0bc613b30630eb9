/- Book.Provs, Of, Repeals, copied, Known: walks. -/
import Derived.Test.YtngckppnaflciaaDoorBkW
namespace Go.Proofs.YtngckppnaflciaaDoor
open Go.RowKit Go.Maps

theorem call_p1 : ∀ args w, (callFunc 37 args).run Tryd.prog w = .ok (.enter 37 args) w := fun _ _ => by simp [go_sem]
theorem call_o1 : ∀ args w, (callFunc 30 args).run Tryd.prog w = .ok (.enter 30 args) w := fun _ _ => by simp [go_sem]
theorem call_r1 : ∀ args w, (callFunc 31 args).run Tryd.prog w = .ok (.enter 31 args) w := fun _ _ => by simp [go_sem]
theorem call_k1 : ∀ args w, (callFunc 25 args).run Tryd.prog w = .ok (.enter 25 args) w := fun _ _ => by simp [go_sem]

theorem provs1_any (p : Pv) (A : Option Addr) (c : Nat) (w : World) : Calls Tryd.prog 37 #[pvV p A c] w fun e w' => e = .returned (.bool true) ∧ Below w.heap.size w w' := by
  unfold pvV
  go_enter Tryd.func37, Tryd.ntmps37
  go_wp2_with fail
  go_ret
  exact ⟨rfl, by (repeat' (first | with_reducible exact Below.refl _ _ | with_reducible assumption | with_reducible refine Below.drew ?_ | with_reducible refine below_drewN ?_ _ | with_reducible refine Below.setCell ?_ ?_ _ | with_reducible refine Below.alloc ?_ ?_ _ | omega | (simp; done) | (simp; omega)))⟩
/-- what Of, Repeals, Known pick -/
def ofB (s : ByteArray) (p : Pv) : Bool := !s.toList.isEmpty && p.key.toList == s.toList
def repB (s : ByteArray) (p : Pv) : Bool := !s.toList.isEmpty && p.rep.toList == s.toList
def knownB (d : Int) (p : Pv) : Bool := decide (p.ena ≤ d)

set_option maxRecDepth 10000 in
theorem of1_any (s : ByteArray) (p : Pv) (A : Option Addr) (c g : Nat) (w : World) (hc : w.cell? ⟨g, 0, none⟩ = some (.string s)) : Calls Tryd.prog 30 #[pvV p A c, .pointer (some ⟨g, 0, none⟩)] w fun e w' => e = .returned (.bool (ofB s p)) ∧ Below w.heap.size w w' := by
  unfold pvV ofB
  have lg := cell_lt hc
  dsimp only at lg
  cases he : s.toList.isEmpty with
  | true =>
    go_enter Tryd.func30, Tryd.ntmps30
    have hc2 := fun o => cell_alloc (o := o) hc
    go_wp2_with fail
    go_ret
    exact ⟨rfl, by (repeat' (first | with_reducible exact Below.refl _ _ | with_reducible assumption | with_reducible refine Below.drew ?_ | with_reducible refine below_drewN ?_ _ | with_reducible refine Below.setCell ?_ ?_ _ | with_reducible refine Below.alloc ?_ ?_ _ | omega | (simp; done) | (simp; omega)))⟩
  | false =>
    cases hq : (p.key.toList == s.toList) with
    | true =>
      go_enter Tryd.func30, Tryd.ntmps30
      have hc2 := fun o => cell_alloc (o := o) hc
      go_wp2_with fail
      go_ret
      exact ⟨rfl, by (repeat' (first | with_reducible exact Below.refl _ _ | with_reducible assumption | with_reducible refine Below.drew ?_ | with_reducible refine below_drewN ?_ _ | with_reducible refine Below.setCell ?_ ?_ _ | with_reducible refine Below.alloc ?_ ?_ _ | omega | (simp; done) | (simp; omega)))⟩
    | false =>
      go_enter Tryd.func30, Tryd.ntmps30
      have hc2 := fun o => cell_alloc (o := o) hc
      go_wp2_with fail
      go_ret
      exact ⟨rfl, by (repeat' (first | with_reducible exact Below.refl _ _ | with_reducible assumption | with_reducible refine Below.drew ?_ | with_reducible refine below_drewN ?_ _ | with_reducible refine Below.setCell ?_ ?_ _ | with_reducible refine Below.alloc ?_ ?_ _ | omega | (simp; done) | (simp; omega)))⟩

set_option maxRecDepth 10000 in
theorem rep1_any (s : ByteArray) (p : Pv) (A : Option Addr) (c g : Nat) (w : World) (hc : w.cell? ⟨g, 0, none⟩ = some (.string s)) : Calls Tryd.prog 31 #[pvV p A c, .pointer (some ⟨g, 0, none⟩)] w fun e w' => e = .returned (.bool (repB s p)) ∧ Below w.heap.size w w' := by
  unfold pvV repB
  have lg := cell_lt hc
  dsimp only at lg
  cases he : s.toList.isEmpty with
  | true =>
    go_enter Tryd.func31, Tryd.ntmps31
    have hc2 := fun o => cell_alloc (o := o) hc
    go_wp2_with fail
    go_ret
    exact ⟨rfl, by (repeat' (first | with_reducible exact Below.refl _ _ | with_reducible assumption | with_reducible refine Below.drew ?_ | with_reducible refine below_drewN ?_ _ | with_reducible refine Below.setCell ?_ ?_ _ | with_reducible refine Below.alloc ?_ ?_ _ | omega | (simp; done) | (simp; omega)))⟩
  | false =>
    cases hq : (p.rep.toList == s.toList) with
    | true =>
      go_enter Tryd.func31, Tryd.ntmps31
      have hc2 := fun o => cell_alloc (o := o) hc
      go_wp2_with fail
      go_ret
      exact ⟨rfl, by (repeat' (first | with_reducible exact Below.refl _ _ | with_reducible assumption | with_reducible refine Below.drew ?_ | with_reducible refine below_drewN ?_ _ | with_reducible refine Below.setCell ?_ ?_ _ | with_reducible refine Below.alloc ?_ ?_ _ | omega | (simp; done) | (simp; omega)))⟩
    | false =>
      go_enter Tryd.func31, Tryd.ntmps31
      have hc2 := fun o => cell_alloc (o := o) hc
      go_wp2_with fail
      go_ret
      exact ⟨rfl, by (repeat' (first | with_reducible exact Below.refl _ _ | with_reducible assumption | with_reducible refine Below.drew ?_ | with_reducible refine below_drewN ?_ _ | with_reducible refine Below.setCell ?_ ?_ _ | with_reducible refine Below.alloc ?_ ?_ _ | omega | (simp; done) | (simp; omega)))⟩

set_option maxRecDepth 10000 in
theorem known1_any (d : Int) (p : Pv) (A : Option Addr) (c g : Nat) (w : World) (hc : w.cell? ⟨g, 0, none⟩ = some (.int .i64 d)) : Calls Tryd.prog 25 #[pvV p A c, .pointer (some ⟨g, 0, none⟩)] w fun e w' => e = .returned (.bool (knownB d p)) ∧ Below w.heap.size w w' := by
  unfold pvV knownB
  have lg := cell_lt hc
  dsimp only at lg
  go_enter Tryd.func25, Tryd.ntmps25
  have hc2 := fun o => cell_alloc (o := o) hc
  go_wp2_with fail
  go_ret
  exact ⟨rfl, by (repeat' (first | with_reducible exact Below.refl _ _ | with_reducible assumption | with_reducible refine Below.drew ?_ | with_reducible refine below_drewN ?_ _ | with_reducible refine Below.setCell ?_ ?_ _ | with_reducible refine Below.alloc ?_ ?_ _ | omega | (simp; done) | (simp; omega)))⟩

section
variable (b M : Nat) (cl : Bool) (S : List Pv)
set_option maxRecDepth 10000 in
theorem provs_any (w : World) (h : BookAt w b M cl S) (hS : S.length ≤ 100000) : Calls Tryd.prog 21 #[.pointer (some ⟨b, 0, none⟩)] w fun e w' => (∃ A c, e = .returned (.slice A (sel (fun _ => true) S).length c) ∧ ProvsAt w' w'.heap.size A (sel (fun _ => true) S)) ∧ Below w.heap.size w w' := by
  have HW := Lib.hid (where_any b M cl S (fun _ => true) 37 #[] w h hS call_p1 (fun p _ A c W _ _ => provs1_any p A c W))
  clear h
  go_enter Tryd.func21, Tryd.ntmps21
  go_wp2_with fail
  refine HW.out.mono ?_
  rintro e w1 ⟨⟨A, c, rfl, hp⟩, hb⟩
  go_wp2_with fail
  go_ret
  exact ⟨⟨A, c, rfl, hp⟩, hb⟩
set_option maxRecDepth 10000 in
theorem of_any (s : ByteArray) (w : World) (h : BookAt w b M cl S) (hS : S.length ≤ 100000) : Calls Tryd.prog 14 #[.pointer (some ⟨b, 0, none⟩), .string s] w fun e w' => (∃ A c, e = .returned (.slice A (sel (ofB s) S).length c) ∧ ProvsAt w' w'.heap.size A (sel (ofB s) S)) ∧ Below w.heap.size w w' := by
  have hmf : ∀ (fn : Fn) (first cap : Array Value) (w : World), (Instr.makeFunc fn first cap).run Tryd.prog w = .ok (.func fn first cap) w := fun _ _ _ _ => rfl
  have HW := Lib.hid (where_any b M cl S (ofB s) 30 #[.pointer (some ⟨w.heap.size, 0, none⟩)] (w.alloc (.cells #[.string s] 9)) (h.step (by (repeat' (first | with_reducible exact Below.refl _ _ | with_reducible assumption | with_reducible refine Below.drew ?_ | with_reducible refine below_drewN ?_ _ | with_reducible refine Below.setCell ?_ ?_ _ | with_reducible refine Below.alloc ?_ ?_ _ | omega | (simp; done) | (simp; omega))))) hS call_o1 (fun p _ A c W hb _ => of1_any s p A c _ W ((hb.cell (p := ⟨w.heap.size, 0, none⟩) (by simp)).trans (cellH (Lib.hid (blk_new (w := w) rfl)) 0))))
  clear h
  go_enter Tryd.func14, Tryd.ntmps14
  go_wp2_with fail
  refine HW.out.mono ?_
  rintro e w1 ⟨⟨A, c, rfl, hp⟩, hb⟩
  go_wp2_with fail
  go_ret
  exact ⟨⟨A, c, rfl, hp⟩, stepH (by (repeat' (first | with_reducible exact Below.refl _ _ | with_reducible assumption | with_reducible refine Below.drew ?_ | with_reducible refine below_drewN ?_ _ | with_reducible refine Below.setCell ?_ ?_ _ | with_reducible refine Below.alloc ?_ ?_ _ | omega | (simp; done) | (simp; omega)))) hb⟩
set_option maxRecDepth 10000 in
theorem repeals_any (s : ByteArray) (w : World) (h : BookAt w b M cl S) (hS : S.length ≤ 100000) : Calls Tryd.prog 15 #[.pointer (some ⟨b, 0, none⟩), .string s] w fun e w' => (∃ A c, e = .returned (.slice A (sel (repB s) S).length c) ∧ ProvsAt w' w'.heap.size A (sel (repB s) S)) ∧ Below w.heap.size w w' := by
  have hmf : ∀ (fn : Fn) (first cap : Array Value) (w : World), (Instr.makeFunc fn first cap).run Tryd.prog w = .ok (.func fn first cap) w := fun _ _ _ _ => rfl
  have HW := Lib.hid (where_any b M cl S (repB s) 31 #[.pointer (some ⟨w.heap.size, 0, none⟩)] (w.alloc (.cells #[.string s] 9)) (h.step (by (repeat' (first | with_reducible exact Below.refl _ _ | with_reducible assumption | with_reducible refine Below.drew ?_ | with_reducible refine below_drewN ?_ _ | with_reducible refine Below.setCell ?_ ?_ _ | with_reducible refine Below.alloc ?_ ?_ _ | omega | (simp; done) | (simp; omega))))) hS call_r1 (fun p _ A c W hb _ => rep1_any s p A c _ W ((hb.cell (p := ⟨w.heap.size, 0, none⟩) (by simp)).trans (cellH (Lib.hid (blk_new (w := w) rfl)) 0))))
  clear h
  go_enter Tryd.func15, Tryd.ntmps15
  go_wp2_with fail
  refine HW.out.mono ?_
  rintro e w1 ⟨⟨A, c, rfl, hp⟩, hb⟩
  go_wp2_with fail
  go_ret
  exact ⟨⟨A, c, rfl, hp⟩, stepH (by (repeat' (first | with_reducible exact Below.refl _ _ | with_reducible assumption | with_reducible refine Below.drew ?_ | with_reducible refine below_drewN ?_ _ | with_reducible refine Below.setCell ?_ ?_ _ | with_reducible refine Below.alloc ?_ ?_ _ | omega | (simp; done) | (simp; omega)))) hb⟩
end
end Go.Proofs.YtngckppnaflciaaDoor
