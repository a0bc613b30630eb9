/- The walk of DayOwn. -/
import Derived.Test.YtmodofbelpaelaaDoorOwnA
import Derived.Test.YtmodofbelpaelaaDoorDayF
import Derived.Deep.DeepCutAuto
namespace Go.Proofs.YtmodofbelpaelaaDoor
open Go.RowKit Go.Shelf

theorem spansAre_is (l : List (Pc Unit)) (A : Option Addr) (c : Nat) (b : Bool) (w : World) (hb : b = true ↔ ∀ p ∈ l, ValidS MD p) (hl : RowAt encU 2 w w.heap.size A l) (hm : l.length ≤ 1000000) :
    Calls Tryd.prog 31 #[.slice A l.length c] w fun e w' => e = .returned (.bool b) ∧ Below w.heap.size w w' :=
  (spansAre_any l A c w hl hm).mono fun e w' ⟨⟨b', he, h⟩, hB⟩ => ⟨by rw [he]; congr 2; cases b <;> cases b' <;> simp_all, hB⟩

set_option maxRecDepth 100000 in
set_option maxHeartbeats 16000000 in
theorem dayOwn_x (l m : List (Pc Unit)) (A B : Option Addr) (c d : Nat) (w : World) (h1 : 300 < l.length) (hT : Tabs w) :
    Calls Tryd.prog 6 #[.slice A l.length c, .slice B m.length d] w fun e w' => e = .returned (.bool true) ∧ Below w.heap.size w w' := by
  have HFB := Lib.hid (fun w' (h : Below w.heap.size w w') => first3_any w' (hT.below h))
  have e1 : decide ((300 : Int) < (l.length : Int)) = true := decide_eq_true (by omega)
  clear hT
  go_enter Tryd.func6, Tryd.ntmps6
  go_wp2_with fail
  refine (HFB.out _ (by (repeat' (first | with_reducible exact Below.refl _ _ | with_reducible assumption | with_reducible refine Below.drew ?_ | with_reducible refine below_drewN ?_ _ | with_reducible refine Below.setCell ?_ ?_ _ | with_reducible refine Below.alloc ?_ ?_ _ | omega | (simp; done) | (simp; omega))))).mono ?_
  rintro e w1 ⟨rfl, hb1⟩
  have hw1 : Below w.heap.size w w1 := stepH (by (repeat' (first | with_reducible exact Below.refl _ _ | with_reducible assumption | with_reducible refine Below.drew ?_ | with_reducible refine below_drewN ?_ _ | with_reducible refine Below.setCell ?_ ?_ _ | with_reducible refine Below.alloc ?_ ?_ _ | omega | (simp; done) | (simp; omega)))) hb1
  have z1 := hw1.size
  clear hb1
  go_wp2_with fail
  go_ret
  exact ⟨rfl, by (repeat' (first | with_reducible exact Below.refl _ _ | with_reducible assumption | with_reducible refine Below.drew ?_ | with_reducible refine below_drewN ?_ _ | with_reducible refine Below.setCell ?_ ?_ _ | with_reducible refine Below.alloc ?_ ?_ _ | omega | (simp; done) | (simp; omega)))⟩

set_option maxRecDepth 100000 in
set_option maxHeartbeats 16000000 in
theorem dayOwn_y (l m : List (Pc Unit)) (A B : Option Addr) (c d : Nat) (w : World) (h1 : l.length ≤ 300) (h2 : 300 < m.length) (hT : Tabs w) :
    Calls Tryd.prog 6 #[.slice A l.length c, .slice B m.length d] w fun e w' => e = .returned (.bool true) ∧ Below w.heap.size w w' := by
  have HFB := Lib.hid (fun w' (h : Below w.heap.size w w') => first3_any w' (hT.below h))
  have e1 : decide ((300 : Int) < (l.length : Int)) = false := decide_eq_false (by omega)
  have e2 : decide ((300 : Int) < (m.length : Int)) = true := decide_eq_true (by omega)
  clear hT
  go_enter Tryd.func6, Tryd.ntmps6
  go_wp2_with fail
  refine (HFB.out _ (by (repeat' (first | with_reducible exact Below.refl _ _ | with_reducible assumption | with_reducible refine Below.drew ?_ | with_reducible refine below_drewN ?_ _ | with_reducible refine Below.setCell ?_ ?_ _ | with_reducible refine Below.alloc ?_ ?_ _ | omega | (simp; done) | (simp; omega))))).mono ?_
  rintro e w1 ⟨rfl, hb1⟩
  have hw1 : Below w.heap.size w w1 := stepH (by (repeat' (first | with_reducible exact Below.refl _ _ | with_reducible assumption | with_reducible refine Below.drew ?_ | with_reducible refine below_drewN ?_ _ | with_reducible refine Below.setCell ?_ ?_ _ | with_reducible refine Below.alloc ?_ ?_ _ | omega | (simp; done) | (simp; omega)))) hb1
  have z1 := hw1.size
  clear hb1
  go_wp2_with fail
  go_ret
  exact ⟨rfl, by (repeat' (first | with_reducible exact Below.refl _ _ | with_reducible assumption | with_reducible refine Below.drew ?_ | with_reducible refine below_drewN ?_ _ | with_reducible refine Below.setCell ?_ ?_ _ | with_reducible refine Below.alloc ?_ ?_ _ | omega | (simp; done) | (simp; omega)))⟩

set_option maxRecDepth 100000 in
set_option maxHeartbeats 16000000 in
theorem dayOwn_a (l m : List (Pc Unit)) (A B : Option Addr) (c d : Nat) (w : World) (hl : RowAt encU 2 w w.heap.size A l) (hm : RowAt encU 2 w w.heap.size B m) (h1 : l.length ≤ 300) (h2 : m.length ≤ 300) (hv : ¬ ∀ p ∈ l, ValidS MD p) (hT : Tabs w) :
    Calls Tryd.prog 6 #[.slice A l.length c, .slice B m.length d] w fun e w' => e = .returned (.bool true) ∧ Below w.heap.size w w' := by
  have HFB := Lib.hid (fun w' (h : Below w.heap.size w w') => first3_any w' (hT.below h))
  have e1 : decide ((300 : Int) < (l.length : Int)) = false := decide_eq_false (by omega)
  have e2 : decide ((300 : Int) < (m.length : Int)) = false := decide_eq_false (by omega)
  have HLl := Lib.hid hl
  have HV := Lib.hid hv
  clear hT hl hm hv
  go_enter Tryd.func6, Tryd.ntmps6
  go_wp2_with fail
  refine (HFB.out _ (by (repeat' (first | with_reducible exact Below.refl _ _ | with_reducible assumption | with_reducible refine Below.drew ?_ | with_reducible refine below_drewN ?_ _ | with_reducible refine Below.setCell ?_ ?_ _ | with_reducible refine Below.alloc ?_ ?_ _ | omega | (simp; done) | (simp; omega))))).mono ?_
  rintro e w1 ⟨rfl, hb1⟩
  have hw1 : Below w.heap.size w w1 := stepH (by (repeat' (first | with_reducible exact Below.refl _ _ | with_reducible assumption | with_reducible refine Below.drew ?_ | with_reducible refine below_drewN ?_ _ | with_reducible refine Below.setCell ?_ ?_ _ | with_reducible refine Below.alloc ?_ ?_ _ | omega | (simp; done) | (simp; omega)))) hb1
  have z1 := hw1.size
  clear hb1
  go_wp2_with fail
  refine (spansAre_is l A c false _ ⟨fun h => (by cases h), fun h => absurd h HV.out⟩ (moved HLl.out (by (repeat' (first | with_reducible exact Below.refl _ _ | with_reducible assumption | with_reducible refine Below.drew ?_ | with_reducible refine below_drewN ?_ _ | with_reducible refine Below.setCell ?_ ?_ _ | with_reducible refine Below.alloc ?_ ?_ _ | omega | (simp; done) | (simp; omega))))) (by omega)).mono ?_
  rintro e w2 ⟨rfl, hb2⟩
  have hw2 : Below w.heap.size w w2 := stepH (by (repeat' (first | with_reducible exact Below.refl _ _ | with_reducible assumption | with_reducible refine Below.drew ?_ | with_reducible refine below_drewN ?_ _ | with_reducible refine Below.setCell ?_ ?_ _ | with_reducible refine Below.alloc ?_ ?_ _ | omega | (simp; done) | (simp; omega)))) hb2
  have z2 := hw2.size
  clear hb2 hw1 z1
  go_wp2_with fail
  go_ret
  exact ⟨rfl, by (repeat' (first | with_reducible exact Below.refl _ _ | with_reducible assumption | with_reducible refine Below.drew ?_ | with_reducible refine below_drewN ?_ _ | with_reducible refine Below.setCell ?_ ?_ _ | with_reducible refine Below.alloc ?_ ?_ _ | omega | (simp; done) | (simp; omega)))⟩

set_option maxRecDepth 100000 in
set_option maxHeartbeats 16000000 in
theorem dayOwn_b (l m : List (Pc Unit)) (A B : Option Addr) (c d : Nat) (w : World) (hl : RowAt encU 2 w w.heap.size A l) (hm : RowAt encU 2 w w.heap.size B m) (h1 : l.length ≤ 300) (h2 : m.length ≤ 300) (hv : ∀ p ∈ l, ValidS MD p) (hu : ¬ ∀ p ∈ m, ValidS MD p) (hT : Tabs w) :
    Calls Tryd.prog 6 #[.slice A l.length c, .slice B m.length d] w fun e w' => e = .returned (.bool true) ∧ Below w.heap.size w w' := by
  have HFB := Lib.hid (fun w' (h : Below w.heap.size w w') => first3_any w' (hT.below h))
  have e1 : decide ((300 : Int) < (l.length : Int)) = false := decide_eq_false (by omega)
  have e2 : decide ((300 : Int) < (m.length : Int)) = false := decide_eq_false (by omega)
  have HLl := Lib.hid hl
  have HMm := Lib.hid hm
  have HV := Lib.hid hv
  have HU := Lib.hid hu
  clear hT hl hm hv hu
  go_enter Tryd.func6, Tryd.ntmps6
  go_wp2_with fail
  refine (HFB.out _ (by (repeat' (first | with_reducible exact Below.refl _ _ | with_reducible assumption | with_reducible refine Below.drew ?_ | with_reducible refine below_drewN ?_ _ | with_reducible refine Below.setCell ?_ ?_ _ | with_reducible refine Below.alloc ?_ ?_ _ | omega | (simp; done) | (simp; omega))))).mono ?_
  rintro e w1 ⟨rfl, hb1⟩
  have hw1 : Below w.heap.size w w1 := stepH (by (repeat' (first | with_reducible exact Below.refl _ _ | with_reducible assumption | with_reducible refine Below.drew ?_ | with_reducible refine below_drewN ?_ _ | with_reducible refine Below.setCell ?_ ?_ _ | with_reducible refine Below.alloc ?_ ?_ _ | omega | (simp; done) | (simp; omega)))) hb1
  have z1 := hw1.size
  clear hb1
  go_wp2_with fail
  refine (spansAre_is l A c true _ ⟨fun _ => HV.out, fun _ => rfl⟩ (moved HLl.out (by (repeat' (first | with_reducible exact Below.refl _ _ | with_reducible assumption | with_reducible refine Below.drew ?_ | with_reducible refine below_drewN ?_ _ | with_reducible refine Below.setCell ?_ ?_ _ | with_reducible refine Below.alloc ?_ ?_ _ | omega | (simp; done) | (simp; omega))))) (by omega)).mono ?_
  rintro e w2 ⟨rfl, hb2⟩
  have hw2 : Below w.heap.size w w2 := stepH (by (repeat' (first | with_reducible exact Below.refl _ _ | with_reducible assumption | with_reducible refine Below.drew ?_ | with_reducible refine below_drewN ?_ _ | with_reducible refine Below.setCell ?_ ?_ _ | with_reducible refine Below.alloc ?_ ?_ _ | omega | (simp; done) | (simp; omega)))) hb2
  have z2 := hw2.size
  clear hb2 hw1 z1
  go_wp2_with fail
  refine (spansAre_is m B d false _ ⟨fun h => (by cases h), fun h => absurd h HU.out⟩ (moved HMm.out (by (repeat' (first | with_reducible exact Below.refl _ _ | with_reducible assumption | with_reducible refine Below.drew ?_ | with_reducible refine below_drewN ?_ _ | with_reducible refine Below.setCell ?_ ?_ _ | with_reducible refine Below.alloc ?_ ?_ _ | omega | (simp; done) | (simp; omega))))) (by omega)).mono ?_
  rintro e w3 ⟨rfl, hb3⟩
  have hw3 : Below w.heap.size w w3 := stepH (by (repeat' (first | with_reducible exact Below.refl _ _ | with_reducible assumption | with_reducible refine Below.drew ?_ | with_reducible refine below_drewN ?_ _ | with_reducible refine Below.setCell ?_ ?_ _ | with_reducible refine Below.alloc ?_ ?_ _ | omega | (simp; done) | (simp; omega)))) hb3
  have z3 := hw3.size
  clear hb3 hw2 z2
  go_wp2_with fail
  go_ret
  exact ⟨rfl, by (repeat' (first | with_reducible exact Below.refl _ _ | with_reducible assumption | with_reducible refine Below.drew ?_ | with_reducible refine below_drewN ?_ _ | with_reducible refine Below.setCell ?_ ?_ _ | with_reducible refine Below.alloc ?_ ?_ _ | omega | (simp; done) | (simp; omega)))⟩

set_option maxRecDepth 100000 in
set_option maxHeartbeats 16000000 in
theorem dayOwn_g (l m : List (Pc Unit)) (A B : Option Addr) (c d : Nat) (w : World) (hl : RowAt encU 2 w w.heap.size A l) (hm : RowAt encU 2 w w.heap.size B m) (h1 : l.length ≤ 300) (h2 : m.length ≤ 300) (hv : ∀ p ∈ l, ValidS MD p) (hu : ∀ p ∈ m, ValidS MD p) (hT : Tabs w) :
    Calls Tryd.prog 6 #[.slice A l.length c, .slice B m.length d] w fun e w' => e = .returned (.bool true) ∧ Below w.heap.size w w' := by
  have HFB := Lib.hid (fun w' (h : Below w.heap.size w w') => first3_any w' (hT.below h))
  obtain ⟨inf0, hi, jz0, jz1, jz2⟩ := info_parts infoSp
  have e1 : decide ((300 : Int) < (l.length : Int)) = false := decide_eq_false (by omega)
  have e2 : decide ((300 : Int) < (m.length : Int)) = false := decide_eq_false (by omega)
  have HLl := Lib.hid hl
  have HMm := Lib.hid hm
  have HV := Lib.hid hv
  have HU := Lib.hid hu
  clear hT hl hm hv hu
  go_enter Tryd.func6, Tryd.ntmps6
  go_wp2_with fail
  refine (HFB.out _ (by (repeat' (first | with_reducible exact Below.refl _ _ | with_reducible assumption | with_reducible refine Below.drew ?_ | with_reducible refine below_drewN ?_ _ | with_reducible refine Below.setCell ?_ ?_ _ | with_reducible refine Below.alloc ?_ ?_ _ | omega | (simp; done) | (simp; omega))))).mono ?_
  rintro e w1 ⟨rfl, hb1⟩
  have hw1 : Below w.heap.size w w1 := stepH (by (repeat' (first | with_reducible exact Below.refl _ _ | with_reducible assumption | with_reducible refine Below.drew ?_ | with_reducible refine below_drewN ?_ _ | with_reducible refine Below.setCell ?_ ?_ _ | with_reducible refine Below.alloc ?_ ?_ _ | omega | (simp; done) | (simp; omega)))) hb1
  have z1 := hw1.size
  clear hb1
  go_wp2_with fail
  refine (spansAre_is l A c true _ ⟨fun _ => HV.out, fun _ => rfl⟩ (moved HLl.out (by (repeat' (first | with_reducible exact Below.refl _ _ | with_reducible assumption | with_reducible refine Below.drew ?_ | with_reducible refine below_drewN ?_ _ | with_reducible refine Below.setCell ?_ ?_ _ | with_reducible refine Below.alloc ?_ ?_ _ | omega | (simp; done) | (simp; omega))))) (by omega)).mono ?_
  rintro e w2 ⟨rfl, hb2⟩
  have hw2 : Below w.heap.size w w2 := stepH (by (repeat' (first | with_reducible exact Below.refl _ _ | with_reducible assumption | with_reducible refine Below.drew ?_ | with_reducible refine below_drewN ?_ _ | with_reducible refine Below.setCell ?_ ?_ _ | with_reducible refine Below.alloc ?_ ?_ _ | omega | (simp; done) | (simp; omega)))) hb2
  have z2 := hw2.size
  clear hb2 hw1 z1
  go_wp2_with fail
  refine (spansAre_is m B d true _ ⟨fun _ => HU.out, fun _ => rfl⟩ (moved HMm.out (by (repeat' (first | with_reducible exact Below.refl _ _ | with_reducible assumption | with_reducible refine Below.drew ?_ | with_reducible refine below_drewN ?_ _ | with_reducible refine Below.setCell ?_ ?_ _ | with_reducible refine Below.alloc ?_ ?_ _ | omega | (simp; done) | (simp; omega))))) (by omega)).mono ?_
  rintro e w3 ⟨rfl, hb3⟩
  have hw3 : Below w.heap.size w w3 := stepH (by (repeat' (first | with_reducible exact Below.refl _ _ | with_reducible assumption | with_reducible refine Below.drew ?_ | with_reducible refine below_drewN ?_ _ | with_reducible refine Below.setCell ?_ ?_ _ | with_reducible refine Below.alloc ?_ ?_ _ | omega | (simp; done) | (simp; omega)))) hb3
  have y3 := hw3.size
  have z3 := hw3.size
  clear hb3 hw2 z2
  go_wp2_with fail
  refine (spansC_any l l.length A c _ rfl (moved HLl.out (by (repeat' (first | with_reducible exact Below.refl _ _ | with_reducible assumption | with_reducible refine Below.drew ?_ | with_reducible refine below_drewN ?_ _ | with_reducible refine Below.setCell ?_ ?_ _ | with_reducible refine Below.alloc ?_ ?_ _ | omega | (simp; done) | (simp; omega))))) (by omega)).mono ?_
  rintro e w4 ⟨v4, rfl, hown4, hb4⟩
  have hw4 : Below w.heap.size w w4 := stepH (by (repeat' (first | with_reducible exact Below.refl _ _ | with_reducible assumption | with_reducible refine Below.drew ?_ | with_reducible refine below_drewN ?_ _ | with_reducible refine Below.setCell ?_ ?_ _ | with_reducible refine Below.alloc ?_ ?_ _ | omega | (simp; done) | (simp; omega)))) hb4
  have HO4 := Lib.hid hown4
  clear hown4
  have y4 := hb4.size
  have z4 := hw4.size
  clear hb4 hw3 z3
  go_wp2_with (at_builtin; go_must (refine wpList_append_lies _ rfl (.tmp 46) (.tmp 49) 59 rfl w3.heap.size 91 inf0 _ 2 16 Tryd.underlying59 hi jz0 jz1 jz2 rfl (by decide) _ l.length _ rfl (own_below HO4.out (by (repeat' (first | with_reducible exact Below.refl _ _ | with_reducible assumption | with_reducible refine Below.drew ?_ | with_reducible refine below_drewN ?_ _ | with_reducible refine Below.setCell ?_ ?_ _ | with_reducible refine Below.alloc ?_ ?_ _ | omega | (simp; done) | (simp; omega))))) ⟨w4.heap.size, 0, none⟩ 2 2 [.int .i64 47, .int .i64 11, .int .i64 1, .int .i64 0] rfl rfl (World.news_of_block (cs := #[.int .i64 47, .int .i64 11, .int .i64 1, .int .i64 0]) (blk_new rfl)) (by simp [Value.oneCell']) (by decide) (by unfold maxLen; omega) (by omega) (by simp; omega) _ rfl ?_); intro g5 c5 w5 hownw5 hgroww5 hatw5 hltw5)
  have hw5 : Below w.heap.size w w5 := Below.grown (w := w4.alloc (.cells #[.int .i64 47, .int .i64 11, .int .i64 1, .int .i64 0] 91)) (by (repeat' (first | with_reducible exact Below.refl _ _ | with_reducible assumption | with_reducible refine Below.drew ?_ | with_reducible refine below_drewN ?_ _ | with_reducible refine Below.setCell ?_ ?_ _ | with_reducible refine Below.alloc ?_ ?_ _ | omega | (simp; done) | (simp; omega)))) hgroww5 (by simp; omega) (fun g hg => by have := (HO4.out.lt g hg).1; omega)
  have hg5 : w3.heap.size ≤ g5 := (hownw5.lt g5 rfl).1
  have hlg5 := hltw5
  have y5 : w4.heap.size ≤ w5.heap.size := Nat.le_trans (by simp) hgroww5.size
  obtain ⟨M, hM⟩ : ∃ M, l ++ [(⟨47, 11, ()⟩ : Pc Unit), ⟨1, 0, ()⟩] = M := ⟨_, rfl⟩
  obtain ⟨nM, hnM⟩ : ∃ n, l.length + 2 = n := ⟨_, rfl⟩
  have hML : M.length = nM := by rw [← hM, ← hnM]; simp
  have hO5 : w5.ownsRow w3.heap.size 91 2 (.slice (some ⟨g5, 0, none⟩) nM c5) nM (M.flatMap encU) := by rw [← hM, ← hnM]; simpa [encU] using hownw5
  have hOw5 : Own encU 2 91 w3.heap.size w5 (.slice (some ⟨g5, 0, none⟩) nM c5) M := by unfold Own; rw [hML]; exact hO5
  obtain ⟨A5, c5', e5, _, _, hrow5⟩ := Own.rows (fun x _ => encU_len x) hOw5
  rw [hML] at e5
  cases e5
  have HRM := Lib.hid hrow5
  have HRL : Hid (RowAt encU 2 w5 w5.heap.size (some ⟨g5, 0, none⟩) l) := by rw [← hM] at hrow5; exact rowPre hrow5
  have HML := Lib.hid hML
  have O5 := Lib.hid hO5
  have hlc : l.length ≤ c5 := by rcases hO5.2 with ⟨h, _⟩ | ⟨_, _, _, e, _, _, h, _⟩; cases h; cases e; omega
  have z5 := hw5.size
  have hnM2 : nM ≤ 302 := by omega
  have hlM : l.length ≤ nM := by omega
  rw [hnM]
  clear hownw5 hgroww5 hatw5 hO5 hOw5 hrow5 hM hML hw4 z4 y4 HO4
  have a5 : Below w5.heap.size w5 w5 := Below.refl _ _
  have ya5 := a5.size
  go_wp2_with fail
  refine (spansC_any M nM (some ⟨g5, 0, none⟩) c5 _ HML.out (moved HRM.out (by (repeat' (first | with_reducible exact Below.refl _ _ | with_reducible assumption | with_reducible refine Below.drew ?_ | with_reducible refine below_drewN ?_ _ | with_reducible refine Below.setCell ?_ ?_ _ | with_reducible refine Below.alloc ?_ ?_ _ | omega | (simp; done) | (simp; omega))))) (by omega)).mono ?_
  rintro e w6 ⟨v6, rfl, hown6, hb6⟩
  have hw6 : Below w.heap.size w w6 := stepH (by (repeat' (first | with_reducible exact Below.refl _ _ | with_reducible assumption | with_reducible refine Below.drew ?_ | with_reducible refine below_drewN ?_ _ | with_reducible refine Below.setCell ?_ ?_ _ | with_reducible refine Below.alloc ?_ ?_ _ | omega | (simp; done) | (simp; omega)))) hb6
  replace a5 : Below w5.heap.size w5 w6 := stepH (by (repeat' (first | with_reducible exact Below.refl _ _ | with_reducible assumption | with_reducible refine Below.drew ?_ | with_reducible refine below_drewN ?_ _ | with_reducible refine Below.setCell ?_ ?_ _ | with_reducible refine Below.alloc ?_ ?_ _ | omega | (simp; done) | (simp; omega)))) hb6
  replace ya5 := a5.size
  obtain ⟨A6, c6, e6, hr6, _, _⟩ := own_line (fun x _ => encU_len x) hown6
  rw [HML.out] at e6
  subst e6
  have HR6 := Lib.hid hr6
  have y6 := hb6.size
  clear hr6 hown6
  have z6 := hw6.size
  clear hb6 hw5 z5
  have a6 : Below w6.heap.size w6 w6 := Below.refl _ _
  have ya6 := a6.size
  go_wp2_with fail
  refine (makeS_new l (some ⟨g5, 0, none⟩) c5 _ (moved HRL.out (by (repeat' (first | with_reducible exact Below.refl _ _ | with_reducible assumption | with_reducible refine Below.drew ?_ | with_reducible refine below_drewN ?_ _ | with_reducible refine Below.setCell ?_ ?_ _ | with_reducible refine Below.alloc ?_ ?_ _ | omega | (simp; done) | (simp; omega))))) (by omega) HV.out).mono ?_
  rintro e w7 ⟨⟨A7, c7, r, rfl, hr7, hA7, hB7, hs7⟩, hb7⟩
  have hw7 : Below w.heap.size w w7 := stepH (by (repeat' (first | with_reducible exact Below.refl _ _ | with_reducible assumption | with_reducible refine Below.drew ?_ | with_reducible refine below_drewN ?_ _ | with_reducible refine Below.setCell ?_ ?_ _ | with_reducible refine Below.alloc ?_ ?_ _ | omega | (simp; done) | (simp; omega)))) hb7
  replace a5 : Below w5.heap.size w5 w7 := stepH (by (repeat' (first | with_reducible exact Below.refl _ _ | with_reducible assumption | with_reducible refine Below.drew ?_ | with_reducible refine below_drewN ?_ _ | with_reducible refine Below.setCell ?_ ?_ _ | with_reducible refine Below.alloc ?_ ?_ _ | omega | (simp; done) | (simp; omega)))) hb7
  replace ya5 := a5.size
  replace a6 : Below w6.heap.size w6 w7 := stepH (by (repeat' (first | with_reducible exact Below.refl _ _ | with_reducible assumption | with_reducible refine Below.drew ?_ | with_reducible refine below_drewN ?_ _ | with_reducible refine Below.setCell ?_ ?_ _ | with_reducible refine Below.alloc ?_ ?_ _ | omega | (simp; done) | (simp; omega)))) hb7
  replace ya6 := a6.size
  have HR7 := Lib.hid hr7
  have HS7 := Lib.hid hs7
  have HA7 := Lib.hid hA7
  have HN7 : Hid (∀ a, A7 = some a → a.block ≠ g5) := fun a ha => by have := hB7 a ha; omega
  have hrl : r.length ≤ 300 := by have h := hs7.len; omega
  have y7 := hb7.size
  clear hr7 hs7 hA7 hB7
  have z7 := hw7.size
  clear hb7 hw6 z6
  have a7 : Below w7.heap.size w7 w7 := Below.refl _ _
  have ya7 := a7.size
  go_wp2_with fail
  refine (sameSpans_yes M nM (some ⟨g5, 0, none⟩) A6 c5 c6 _ HML.out (moved HRM.out (by (repeat' (first | with_reducible exact Below.refl _ _ | with_reducible assumption | with_reducible refine Below.drew ?_ | with_reducible refine below_drewN ?_ _ | with_reducible refine Below.setCell ?_ ?_ _ | with_reducible refine Below.alloc ?_ ?_ _ | omega | (simp; done) | (simp; omega))))) (moved HR6.out (by (repeat' (first | with_reducible exact Below.refl _ _ | with_reducible assumption | with_reducible refine Below.drew ?_ | with_reducible refine below_drewN ?_ _ | with_reducible refine Below.setCell ?_ ?_ _ | with_reducible refine Below.alloc ?_ ?_ _ | omega | (simp; done) | (simp; omega))))) (by omega)).mono ?_
  rintro e w8 ⟨rfl, hb8⟩
  have hw8 : Below w.heap.size w w8 := stepH (by (repeat' (first | with_reducible exact Below.refl _ _ | with_reducible assumption | with_reducible refine Below.drew ?_ | with_reducible refine below_drewN ?_ _ | with_reducible refine Below.setCell ?_ ?_ _ | with_reducible refine Below.alloc ?_ ?_ _ | omega | (simp; done) | (simp; omega)))) hb8
  replace a5 : Below w5.heap.size w5 w8 := stepH (by (repeat' (first | with_reducible exact Below.refl _ _ | with_reducible assumption | with_reducible refine Below.drew ?_ | with_reducible refine below_drewN ?_ _ | with_reducible refine Below.setCell ?_ ?_ _ | with_reducible refine Below.alloc ?_ ?_ _ | omega | (simp; done) | (simp; omega)))) hb8
  replace ya5 := a5.size
  replace a6 : Below w6.heap.size w6 w8 := stepH (by (repeat' (first | with_reducible exact Below.refl _ _ | with_reducible assumption | with_reducible refine Below.drew ?_ | with_reducible refine below_drewN ?_ _ | with_reducible refine Below.setCell ?_ ?_ _ | with_reducible refine Below.alloc ?_ ?_ _ | omega | (simp; done) | (simp; omega)))) hb8
  replace ya6 := a6.size
  replace a7 : Below w7.heap.size w7 w8 := stepH (by (repeat' (first | with_reducible exact Below.refl _ _ | with_reducible assumption | with_reducible refine Below.drew ?_ | with_reducible refine below_drewN ?_ _ | with_reducible refine Below.setCell ?_ ?_ _ | with_reducible refine Below.alloc ?_ ?_ _ | omega | (simp; done) | (simp; omega)))) hb8
  replace ya7 := a7.size
  have y8 : w7.heap.size < w8.heap.size := Nat.lt_of_lt_of_le (by simp) hb8.size
  have S := keepH hb8 (g := w7.heap.size) (blk_new rfl)
  have z8 := hw8.size
  clear hb8 hw7 z7
  have cS := cellH S
  obtain ⟨lS, lS1, lS2⟩ := ltH S
  have HR8 := Lib.hid (moved HR7.out a7)
  have O8 := Lib.hid (own_below O5.out a5)
  have hlS := lt_of_H S
  have hS5 : w5.heap.size ≤ w7.heap.size := by omega
  clear a5 a6 a7 ya5 ya6 ya7 HR6 HRM HRL HML O5 HR7
  go_wp2_with fail
  clear cS lS lS1 lS2
  go_loopw [11] (fun i wr => ∃ (k : Nat) (xs : List Value), k ≤ nM ∧ i = .int .i64 k ∧ wr.ownsRow w3.heap.size 91 2 (.slice (some ⟨g5, 0, none⟩) nM c5) nM xs ∧ OnlyL [g5] w8 wr) (fun i _ => nM - (intOf i).toNat)
  case atStart => exact ⟨0, _, Nat.zero_le _, rfl, O8.out, OnlyL.refl _ _⟩
  case round =>
    obtain ⟨k, xs, hk, rfl, hown, hol⟩ := hrel
    by_cases hlt : k < nM
    · obtain ⟨⟨u0, q0⟩, f0⟩ := own_at (i := k * 2) hown (by omega)
      obtain ⟨⟨u1, q1⟩, f1⟩ := own_at (i := k * 2 + 1) hown (by omega)
      have hlt2 : (k : Int) < (nM : Int) := by omega
      go_wp2_with fail
      go_roundw
      case rel => exact ⟨k + 1, _, by omega, by go_num, own_over rfl hown hlt _ _, OnlyL.setCell (OnlyL.setCell hol (.inl (by simp)) _) (.inl (by simp)) _⟩
      case measure => simp [intOf]; omega
    · obtain rfl : k = nM := by omega
      obtain ⟨w9, rfl⟩ : ∃ x : World, x = wr := ⟨_, rfl⟩
      have hw9 : Below w.heap.size w w9 := hw8.trans (hol.below (by omega) (fun k hk => by simp only [List.mem_singleton] at hk; omega))
      have z9 := hw9.size
      have zo := hol.size
      have S9 := Lib.hid (hol.keep S.out (by simp only [List.mem_singleton]; omega))
      have HR9 : Hid (RowAt encU 2 w9 w9.heap.size A7 r) := fun k x hx => by
        obtain ⟨b, off, e, hb, hc⟩ := HR8.out k x hx
        exact ⟨b, off, e, Nat.lt_of_lt_of_le hb hol.size, fun j u hj => by rw [World.cell?_of_block (hol.block b hb (by simp only [List.mem_singleton]; exact HN7.out _ e))]; exact hc j u hj⟩
      clear hol hown S HR8 O8 hlt hk
      have S := S9
      clear S9
      have a9 : Below w9.heap.size w9 w9 := Below.refl _ _
      have ya9 := a9.size
      go_wp2_with fail
      refine (makeS_ok m B d _ (moved HMm.out (by (repeat' (first | with_reducible exact Below.refl _ _ | with_reducible assumption | with_reducible refine Below.drew ?_ | with_reducible refine below_drewN ?_ _ | with_reducible refine Below.setCell ?_ ?_ _ | with_reducible refine Below.alloc ?_ ?_ _ | omega | (simp; done) | (simp; omega))))) (by omega) HU.out).mono ?_
      rintro e w10 ⟨⟨A10, c10, r2, rfl, hr10, hA10, hs10⟩, hb10⟩
      have hw10 : Below w.heap.size w w10 := stepH (by (repeat' (first | with_reducible exact Below.refl _ _ | with_reducible assumption | with_reducible refine Below.drew ?_ | with_reducible refine below_drewN ?_ _ | with_reducible refine Below.setCell ?_ ?_ _ | with_reducible refine Below.alloc ?_ ?_ _ | omega | (simp; done) | (simp; omega)))) hb10
      replace a9 : Below w9.heap.size w9 w10 := stepH (by (repeat' (first | with_reducible exact Below.refl _ _ | with_reducible assumption | with_reducible refine Below.drew ?_ | with_reducible refine below_drewN ?_ _ | with_reducible refine Below.setCell ?_ ?_ _ | with_reducible refine Below.alloc ?_ ?_ _ | omega | (simp; done) | (simp; omega)))) hb10
      replace ya9 := a9.size
      have HR10 := Lib.hid hr10
      have HS10 := Lib.hid hs10
      have HA10 := Lib.hid hA10
      have y10 := hb10.size
      have hrl2 : r2.length ≤ 300 := by have h := hs10.len; omega
      clear hr10 hs10 hA10
      replace S := keepH hb10 S.out
      have z10 := hw10.size
      clear hb10 hw9 z9
      have cS := cellH S
      obtain ⟨lS, lS1, lS2⟩ := ltH S
      have a10 : Below w10.heap.size w10 w10 := Below.refl _ _
      have ya10 := a10.size
      go_wp2_with fail
      refine (normS_any l A c _ (moved HLl.out (by (repeat' (first | with_reducible exact Below.refl _ _ | with_reducible assumption | with_reducible refine Below.drew ?_ | with_reducible refine below_drewN ?_ _ | with_reducible refine Below.setCell ?_ ?_ _ | with_reducible refine Below.alloc ?_ ?_ _ | omega | (simp; done) | (simp; omega))))) (by omega) HV.out).mono ?_
      rintro e w11 ⟨⟨A11, c11, rn, rfl, hr11, _, _, hs11⟩, hb11⟩
      have hw11 : Below w.heap.size w w11 := stepH (by (repeat' (first | with_reducible exact Below.refl _ _ | with_reducible assumption | with_reducible refine Below.drew ?_ | with_reducible refine below_drewN ?_ _ | with_reducible refine Below.setCell ?_ ?_ _ | with_reducible refine Below.alloc ?_ ?_ _ | omega | (simp; done) | (simp; omega)))) hb11
      replace a9 : Below w9.heap.size w9 w11 := stepH (by (repeat' (first | with_reducible exact Below.refl _ _ | with_reducible assumption | with_reducible refine Below.drew ?_ | with_reducible refine below_drewN ?_ _ | with_reducible refine Below.setCell ?_ ?_ _ | with_reducible refine Below.alloc ?_ ?_ _ | omega | (simp; done) | (simp; omega)))) hb11
      replace ya9 := a9.size
      replace a10 : Below w10.heap.size w10 w11 := stepH (by (repeat' (first | with_reducible exact Below.refl _ _ | with_reducible assumption | with_reducible refine Below.drew ?_ | with_reducible refine below_drewN ?_ _ | with_reducible refine Below.setCell ?_ ?_ _ | with_reducible refine Below.alloc ?_ ?_ _ | omega | (simp; done) | (simp; omega)))) hb11
      replace ya10 := a10.size
      have y11 : w10.heap.size < w11.heap.size := Nat.lt_of_lt_of_le (by simp) hb11.size
      obtain rfl : r = rn := (hs11.uniq HS7.out).symm
      have HR11 := Lib.hid hr11
      clear hr11 hs11
      replace S := keepH hb11 (blk_old S.out)
      have T := keepH hb11 (g := w10.heap.size) (blk_new rfl)
      have z11 := hw11.size
      clear hb11 hw10 z10
      clear cS lS lS1 lS2
      have cS := cellH S
      obtain ⟨lS, lS1, lS2⟩ := ltH S
      have cT := cellH T
      obtain ⟨lT, lT1, lT2⟩ := ltH T
      have a11 : Below w11.heap.size w11 w11 := Below.refl _ _
      have ya11 := a11.size
      go_wp2_with fail
      refine (spansD_any r A7 c7 _ (moved HR9.out (by (repeat' (first | with_reducible exact Below.refl _ _ | with_reducible assumption | with_reducible refine Below.drew ?_ | with_reducible refine below_drewN ?_ _ | with_reducible refine Below.setCell ?_ ?_ _ | with_reducible refine Below.alloc ?_ ?_ _ | omega | (simp; done) | (simp; omega))))) (by omega) HA7.out).mono ?_
      rintro e w12 ⟨v12, rfl, hown12, hb12⟩
      have hw12 : Below w.heap.size w w12 := stepH (by (repeat' (first | with_reducible exact Below.refl _ _ | with_reducible assumption | with_reducible refine Below.drew ?_ | with_reducible refine below_drewN ?_ _ | with_reducible refine Below.setCell ?_ ?_ _ | with_reducible refine Below.alloc ?_ ?_ _ | omega | (simp; done) | (simp; omega)))) hb12
      replace a9 : Below w9.heap.size w9 w12 := stepH (by (repeat' (first | with_reducible exact Below.refl _ _ | with_reducible assumption | with_reducible refine Below.drew ?_ | with_reducible refine below_drewN ?_ _ | with_reducible refine Below.setCell ?_ ?_ _ | with_reducible refine Below.alloc ?_ ?_ _ | omega | (simp; done) | (simp; omega)))) hb12
      replace ya9 := a9.size
      replace a10 : Below w10.heap.size w10 w12 := stepH (by (repeat' (first | with_reducible exact Below.refl _ _ | with_reducible assumption | with_reducible refine Below.drew ?_ | with_reducible refine below_drewN ?_ _ | with_reducible refine Below.setCell ?_ ?_ _ | with_reducible refine Below.alloc ?_ ?_ _ | omega | (simp; done) | (simp; omega)))) hb12
      replace ya10 := a10.size
      replace a11 : Below w11.heap.size w11 w12 := stepH (by (repeat' (first | with_reducible exact Below.refl _ _ | with_reducible assumption | with_reducible refine Below.drew ?_ | with_reducible refine below_drewN ?_ _ | with_reducible refine Below.setCell ?_ ?_ _ | with_reducible refine Below.alloc ?_ ?_ _ | omega | (simp; done) | (simp; omega)))) hb12
      replace ya11 := a11.size
      have HO12 := Lib.hid hown12
      have HP12 : Hid (∀ g, v12.ownBlock = some g → w11.heap.size ≤ g ∧ g < w12.heap.size) := fun g h => hown12.lt g h
      have y12 := hb12.size
      clear hown12
      replace S := keepH hb12 S.out
      replace T := keepH hb12 T.out
      have z12 := hw12.size
      clear hb12 hw11 z11
      clear cS lS lS1 lS2 cT lT lT1 lT2
      have cS := cellH S
      obtain ⟨lS, lS1, lS2⟩ := ltH S
      have cT := cellH T
      obtain ⟨lT, lT1, lT2⟩ := ltH T
      go_wp2_with fail
      refine (spansD_any r A7 c7 _ (moved HR9.out (by (repeat' (first | with_reducible exact Below.refl _ _ | with_reducible assumption | with_reducible refine Below.drew ?_ | with_reducible refine below_drewN ?_ _ | with_reducible refine Below.setCell ?_ ?_ _ | with_reducible refine Below.alloc ?_ ?_ _ | omega | (simp; done) | (simp; omega))))) (by omega) HA7.out).mono ?_
      rintro e w13 ⟨v13, rfl, hown13, hb13⟩
      have hw13 : Below w.heap.size w w13 := stepH (by (repeat' (first | with_reducible exact Below.refl _ _ | with_reducible assumption | with_reducible refine Below.drew ?_ | with_reducible refine below_drewN ?_ _ | with_reducible refine Below.setCell ?_ ?_ _ | with_reducible refine Below.alloc ?_ ?_ _ | omega | (simp; done) | (simp; omega)))) hb13
      replace a9 : Below w9.heap.size w9 w13 := stepH (by (repeat' (first | with_reducible exact Below.refl _ _ | with_reducible assumption | with_reducible refine Below.drew ?_ | with_reducible refine below_drewN ?_ _ | with_reducible refine Below.setCell ?_ ?_ _ | with_reducible refine Below.alloc ?_ ?_ _ | omega | (simp; done) | (simp; omega)))) hb13
      replace ya9 := a9.size
      replace a10 : Below w10.heap.size w10 w13 := stepH (by (repeat' (first | with_reducible exact Below.refl _ _ | with_reducible assumption | with_reducible refine Below.drew ?_ | with_reducible refine below_drewN ?_ _ | with_reducible refine Below.setCell ?_ ?_ _ | with_reducible refine Below.alloc ?_ ?_ _ | omega | (simp; done) | (simp; omega)))) hb13
      replace ya10 := a10.size
      replace a11 : Below w11.heap.size w11 w13 := stepH (by (repeat' (first | with_reducible exact Below.refl _ _ | with_reducible assumption | with_reducible refine Below.drew ?_ | with_reducible refine below_drewN ?_ _ | with_reducible refine Below.setCell ?_ ?_ _ | with_reducible refine Below.alloc ?_ ?_ _ | omega | (simp; done) | (simp; omega)))) hb13
      replace ya11 := a11.size
      have HO13 := Lib.hid hown13
      have HQ13 : Hid (∀ g, v13.ownBlock = some g → w12.heap.size ≤ g ∧ g < w13.heap.size) := fun g h => hown13.lt g h
      replace HO12 := Lib.hid (own_below HO12.out hb13)
      have y13 := hb13.size
      clear hown13
      replace S := keepH hb13 S.out
      replace T := keepH hb13 T.out
      have z13 := hw13.size
      clear hb13 hw12 z12
      clear cS lS lS1 lS2 cT lT lT1 lT2
      have cS := cellH S
      obtain ⟨lS, lS1, lS2⟩ := ltH S
      have cT := cellH T
      obtain ⟨lT, lT1, lT2⟩ := ltH T
      obtain ⟨A12, c12, rfl, _, _, _⟩ := own_line (fun x _ => encU_len x) HO12.out
      have lS12 : w.heap.size ≤ w11.heap.size := by omega
      have S13 := S
      have T13 := T
      skip
      go_wp2_with fail
      clear cS lS lS1 lS2 cT lT lT1 lT2
      go_loopw [17] (fun i wr => ∃ (k : Nat) (xs : List Value), k ≤ r.length ∧ i = .int .i64 k ∧ wr.ownsRow w11.heap.size 91 2 (.slice A12 r.length c12) r.length xs ∧ wr.ownsRow w12.heap.size 91 2 v13 r.length (r.flatMap encU) ∧ Below w11.heap.size w13 wr) (fun i _ => r.length - (intOf i).toNat)
      case atStart => exact ⟨0, _, Nat.zero_le _, rfl, HO12.out, HO13.out, Below.refl _ _⟩
      case round =>
        obtain ⟨k, xs, hk, rfl, hown, hown2, hol⟩ := hrel
        by_cases hlt : k < r.length
        · obtain ⟨g12, rfl⟩ : ∃ g, A12 = some ⟨g, 0, none⟩ := by
            rcases hown.2 with ⟨h, h0⟩ | ⟨g, _, _, h, _⟩
            · omega
            · cases h; exact ⟨g, rfl⟩
          obtain ⟨hp1, hp2⟩ := HP12.out g12 rfl
          obtain ⟨⟨u0, q0⟩, f0⟩ := own_at (i := k * 2) hown (by omega)
          obtain ⟨⟨u1, q1⟩, f1⟩ := own_at (i := k * 2 + 1) hown (by omega)
          have hlt2 : (k : Int) < (r.length : Int) := by omega
          go_wp2_with fail
          go_roundw
          case rel => exact ⟨k + 1, _, by omega, by go_num, own_over rfl hown hlt _ _, own_setOther (own_setOther hown2 (fun b hb => by have := (hown2.lt b hb).1; omega)) (fun b hb => by have := (hown2.lt b hb).1; omega), Below.setCell (Below.setCell hol (by dsimp only; omega) _) (by dsimp only; omega) _⟩
          case measure => simp [intOf]; omega
        · obtain rfl : k = r.length := by omega
          obtain ⟨w14, rfl⟩ : ∃ x : World, x = wr := ⟨_, rfl⟩
          have hw14 : Below w.heap.size w w14 := hw13.trans (hol.mono lS12)
          have z14 := hw14.size
          have zo := hol.size
          replace S := Lib.hid ((hol.block _ (by omega)).trans S.out)
          replace T := Lib.hid ((hol.block _ (by omega)).trans T.out)
          replace a9 := a9.trans (hol.mono (by omega))
          replace a10 := a10.trans (hol.mono (by omega))
          replace a11 := a11.trans (hol.mono (by omega))
          replace ya9 := a9.size
          replace ya10 := a10.size
          replace ya11 := a11.size
          have HXS : Hid (xs.length = r.length * 2) := hown.1
          have P14 := Lib.hid hown
          have Q14 := Lib.hid hown2
          clear hown hown2 hol HO12 HO13 hlt hk S13 T13
          go_upto_region 21 with (at_builtin; go_must (refine wpList_append_lies _ rfl (.tmp 95) (.tmp 98) 59 rfl w11.heap.size 91 inf0 _ 2 16 Tryd.underlying59 hi jz0 jz1 jz2 rfl (by decide) _ r.length _ rfl (own_below P14.out (by (repeat' (first | with_reducible exact Below.refl _ _ | with_reducible assumption | with_reducible refine Below.drew ?_ | with_reducible refine below_drewN ?_ _ | with_reducible refine Below.setCell ?_ ?_ _ | with_reducible refine Below.alloc ?_ ?_ _ | omega | (simp; done) | (simp; omega))))) ⟨w14.heap.size, 0, none⟩ 2 2 [.int .i64 1, .int .i64 0, .int .i64 2, .int .i64 0] rfl rfl (World.news_of_block (cs := #[.int .i64 1, .int .i64 0, .int .i64 2, .int .i64 0]) (blk_new rfl)) (by simp [Value.oneCell']) (by decide) (by unfold maxLen; omega) (by omega) (by simp; omega) _ rfl ?_); intro g15 c15 w15 hownw15 hgroww15 hatw15 hltw15)
          skip
          have lS11 : w7.heap.size < w11.heap.size := by omega
          have lT11 : w10.heap.size < w11.heap.size := by omega
          have hw15 : Below w.heap.size w w15 := Below.grown (w := w14.alloc (.cells #[.int .i64 1, .int .i64 0, .int .i64 2, .int .i64 0] 91)) (by (repeat' (first | with_reducible exact Below.refl _ _ | with_reducible assumption | with_reducible refine Below.drew ?_ | with_reducible refine below_drewN ?_ _ | with_reducible refine Below.setCell ?_ ?_ _ | with_reducible refine Below.alloc ?_ ?_ _ | omega | (simp; done) | (simp; omega)))) hgroww15 (by simp; omega) (fun g hg => by have := (P14.out.lt g hg).1; omega)
          have z15 := hw15.size
          have hz15 : w14.heap.size < w15.heap.size := Nat.lt_of_lt_of_le (by simp) hgroww15.size
          replace a9 : Below w9.heap.size w9 w15 := Below.grown (w := w14.alloc (.cells #[.int .i64 1, .int .i64 0, .int .i64 2, .int .i64 0] 91)) (by (repeat' (first | with_reducible exact Below.refl _ _ | with_reducible assumption | with_reducible refine Below.drew ?_ | with_reducible refine below_drewN ?_ _ | with_reducible refine Below.setCell ?_ ?_ _ | with_reducible refine Below.alloc ?_ ?_ _ | omega | (simp; done) | (simp; omega)))) hgroww15 (by simp; omega) (fun g hg => by have := (P14.out.lt g hg).1; omega)
          replace ya9 := a9.size
          replace a10 : Below w10.heap.size w10 w15 := Below.grown (w := w14.alloc (.cells #[.int .i64 1, .int .i64 0, .int .i64 2, .int .i64 0] 91)) (by (repeat' (first | with_reducible exact Below.refl _ _ | with_reducible assumption | with_reducible refine Below.drew ?_ | with_reducible refine below_drewN ?_ _ | with_reducible refine Below.setCell ?_ ?_ _ | with_reducible refine Below.alloc ?_ ?_ _ | omega | (simp; done) | (simp; omega)))) hgroww15 (by simp; omega) (fun g hg => by have := (P14.out.lt g hg).1; omega)
          replace ya10 := a10.size
          replace a11 : Below w11.heap.size w11 w15 := Below.grown (w := w14.alloc (.cells #[.int .i64 1, .int .i64 0, .int .i64 2, .int .i64 0] 91)) (by (repeat' (first | with_reducible exact Below.refl _ _ | with_reducible assumption | with_reducible refine Below.drew ?_ | with_reducible refine below_drewN ?_ _ | with_reducible refine Below.setCell ?_ ?_ _ | with_reducible refine Below.alloc ?_ ?_ _ | omega | (simp; done) | (simp; omega)))) hgroww15 (by simp; omega) (fun g hg => by have := (P14.out.lt g hg).1; omega)
          replace ya11 := a11.size
          replace S := Lib.hid ((hgroww15.block _ (by have := lt_of_H S; simp; omega) (fun e => by have := (P14.out.lt _ e.symm).1; have := lS11; omega)).trans (blk_old S.out))
          replace T := Lib.hid ((hgroww15.block _ (by have := lt_of_H T; simp; omega) (fun e => by have := (P14.out.lt _ e.symm).1; have := lT11; omega)).trans (blk_old T.out))
          have Q15 := Lib.hid ((own_below Q14.out (w' := w14.alloc (.cells #[.int .i64 1, .int .i64 0, .int .i64 2, .int .i64 0] 91)) (by (repeat' (first | with_reducible exact Below.refl _ _ | with_reducible assumption | with_reducible refine Below.drew ?_ | with_reducible refine below_drewN ?_ _ | with_reducible refine Below.setCell ?_ ?_ _ | with_reducible refine Below.alloc ?_ ?_ _ | omega | (simp; done) | (simp; omega))))).kept hgroww15 (by
            rcases hv : v13.ownBlock with _ | b
            · exact .inl rfl
            · exact .inr (fun e => by have h1 := (HQ13.out b hv).1; have h2 := HP12.out b e.symm; omega)))
          have hne : Hid (v13.ownBlock ≠ some g15) := fun e => by
            have h1 := HQ13.out g15 e
            rcases hatw15 with h | h
            · have h2 := HP12.out g15 h; omega
            · simp at h; omega
          have P15 := Lib.hid hownw15
          clear hownw15 hgroww15 P14 Q14
          go_upto_region 22 with (at_builtin; go_must (refine wpList_append_lies _ rfl (.tmp 100) (.tmp 102) 59 rfl w12.heap.size 91 inf0 _ 2 16 Tryd.underlying59 hi jz0 jz1 jz2 rfl (by decide) _ r.length _ rfl (own_below Q15.out (by (repeat' (first | with_reducible exact Below.refl _ _ | with_reducible assumption | with_reducible refine Below.drew ?_ | with_reducible refine below_drewN ?_ _ | with_reducible refine Below.setCell ?_ ?_ _ | with_reducible refine Below.alloc ?_ ?_ _ | omega | (simp; done) | (simp; omega))))) ⟨w15.heap.size, 0, none⟩ 1 1 [.int .i64 3, .int .i64 0] rfl rfl (World.news_of_block (cs := #[.int .i64 3, .int .i64 0]) (blk_new rfl)) (by simp [Value.oneCell']) (by decide) (by unfold maxLen; omega) (by omega) (by simp; omega) _ rfl ?_); intro g16 c16 w16 hownw16 hgroww16 hatw16 hltw16)
          have P16 := Lib.hid ((own_below P15.out (w' := w15.alloc (.cells #[.int .i64 3, .int .i64 0] 91)) (by (repeat' (first | with_reducible exact Below.refl _ _ | with_reducible assumption | with_reducible refine Below.drew ?_ | with_reducible refine below_drewN ?_ _ | with_reducible refine Below.setCell ?_ ?_ _ | with_reducible refine Below.alloc ?_ ?_ _ | omega | (simp; done) | (simp; omega))))).kept hgroww16 (.inr (fun e => hne.out e.symm)))
          have hw16 : Below w.heap.size w w16 := Below.grown (w := w15.alloc (.cells #[.int .i64 3, .int .i64 0] 91)) (by (repeat' (first | with_reducible exact Below.refl _ _ | with_reducible assumption | with_reducible refine Below.drew ?_ | with_reducible refine below_drewN ?_ _ | with_reducible refine Below.setCell ?_ ?_ _ | with_reducible refine Below.alloc ?_ ?_ _ | omega | (simp; done) | (simp; omega)))) hgroww16 (by simp; omega) (fun g hg => by have := (Q15.out.lt g hg).1; omega)
          have z16 := hw16.size
          have hz16 : w15.heap.size < w16.heap.size := Nat.lt_of_lt_of_le (by simp) hgroww16.size
          replace a9 : Below w9.heap.size w9 w16 := Below.grown (w := w15.alloc (.cells #[.int .i64 3, .int .i64 0] 91)) (by (repeat' (first | with_reducible exact Below.refl _ _ | with_reducible assumption | with_reducible refine Below.drew ?_ | with_reducible refine below_drewN ?_ _ | with_reducible refine Below.setCell ?_ ?_ _ | with_reducible refine Below.alloc ?_ ?_ _ | omega | (simp; done) | (simp; omega)))) hgroww16 (by simp; omega) (fun g hg => by have := (Q15.out.lt g hg).1; omega)
          replace ya9 := a9.size
          replace a10 : Below w10.heap.size w10 w16 := Below.grown (w := w15.alloc (.cells #[.int .i64 3, .int .i64 0] 91)) (by (repeat' (first | with_reducible exact Below.refl _ _ | with_reducible assumption | with_reducible refine Below.drew ?_ | with_reducible refine below_drewN ?_ _ | with_reducible refine Below.setCell ?_ ?_ _ | with_reducible refine Below.alloc ?_ ?_ _ | omega | (simp; done) | (simp; omega)))) hgroww16 (by simp; omega) (fun g hg => by have := (Q15.out.lt g hg).1; omega)
          replace ya10 := a10.size
          replace a11 : Below w11.heap.size w11 w16 := Below.grown (w := w15.alloc (.cells #[.int .i64 3, .int .i64 0] 91)) (by (repeat' (first | with_reducible exact Below.refl _ _ | with_reducible assumption | with_reducible refine Below.drew ?_ | with_reducible refine below_drewN ?_ _ | with_reducible refine Below.setCell ?_ ?_ _ | with_reducible refine Below.alloc ?_ ?_ _ | omega | (simp; done) | (simp; omega)))) hgroww16 (by simp; omega) (fun g hg => by have := (Q15.out.lt g hg).1; omega)
          replace ya11 := a11.size
          replace S := Lib.hid ((hgroww16.block _ (by have := lt_of_H S; simp; omega) (fun e => by have := (Q15.out.lt _ e.symm).1; have := lS11; omega)).trans (blk_old S.out))
          replace T := Lib.hid ((hgroww16.block _ (by have := lt_of_H T; simp; omega) (fun e => by have := (Q15.out.lt _ e.symm).1; have := lT11; omega)).trans (blk_old T.out))
          have Q16 := Lib.hid hownw16
          clear hownw16 hgroww16 P15 Q15 hatw16
          have a16 : Below w16.heap.size w16 w16 := Below.refl _ _
          have ya16 := a16.size
          have cS := cellH S
          obtain ⟨lS, lS1, lS2⟩ := ltH S
          have cT := cellH T
          obtain ⟨lT, lT1, lT2⟩ := ltH T
          go_wp2_with fail
          refine (or_any r r2 A7 A10 c7 c10 _ (moved HR9.out (by (repeat' (first | with_reducible exact Below.refl _ _ | with_reducible assumption | with_reducible refine Below.drew ?_ | with_reducible refine below_drewN ?_ _ | with_reducible refine Below.setCell ?_ ?_ _ | with_reducible refine Below.alloc ?_ ?_ _ | omega | (simp; done) | (simp; omega))))) (moved HR10.out (by (repeat' (first | with_reducible exact Below.refl _ _ | with_reducible assumption | with_reducible refine Below.drew ?_ | with_reducible refine below_drewN ?_ _ | with_reducible refine Below.setCell ?_ ?_ _ | with_reducible refine Below.alloc ?_ ?_ _ | omega | (simp; done) | (simp; omega))))) (by omega) (by omega) HA7.out HA10.out HS7.out.canon HS10.out.canon).mono ?_
          rintro e w17 ⟨⟨_, _, _, rfl, _⟩, hb17⟩
          have hw17 : Below w.heap.size w w17 := stepH (by (repeat' (first | with_reducible exact Below.refl _ _ | with_reducible assumption | with_reducible refine Below.drew ?_ | with_reducible refine below_drewN ?_ _ | with_reducible refine Below.setCell ?_ ?_ _ | with_reducible refine Below.alloc ?_ ?_ _ | omega | (simp; done) | (simp; omega)))) hb17
          replace a9 : Below w9.heap.size w9 w17 := stepH (by (repeat' (first | with_reducible exact Below.refl _ _ | with_reducible assumption | with_reducible refine Below.drew ?_ | with_reducible refine below_drewN ?_ _ | with_reducible refine Below.setCell ?_ ?_ _ | with_reducible refine Below.alloc ?_ ?_ _ | omega | (simp; done) | (simp; omega)))) hb17
          replace ya9 := a9.size
          replace a10 : Below w10.heap.size w10 w17 := stepH (by (repeat' (first | with_reducible exact Below.refl _ _ | with_reducible assumption | with_reducible refine Below.drew ?_ | with_reducible refine below_drewN ?_ _ | with_reducible refine Below.setCell ?_ ?_ _ | with_reducible refine Below.alloc ?_ ?_ _ | omega | (simp; done) | (simp; omega)))) hb17
          replace ya10 := a10.size
          replace a11 : Below w11.heap.size w11 w17 := stepH (by (repeat' (first | with_reducible exact Below.refl _ _ | with_reducible assumption | with_reducible refine Below.drew ?_ | with_reducible refine below_drewN ?_ _ | with_reducible refine Below.setCell ?_ ?_ _ | with_reducible refine Below.alloc ?_ ?_ _ | omega | (simp; done) | (simp; omega)))) hb17
          replace ya11 := a11.size
          replace a16 : Below w16.heap.size w16 w17 := stepH (by (repeat' (first | with_reducible exact Below.refl _ _ | with_reducible assumption | with_reducible refine Below.drew ?_ | with_reducible refine below_drewN ?_ _ | with_reducible refine Below.setCell ?_ ?_ _ | with_reducible refine Below.alloc ?_ ?_ _ | omega | (simp; done) | (simp; omega)))) hb17
          replace ya16 := a16.size
          replace S := keepH hb17 S.out
          replace T := keepH hb17 T.out
          have z17 := hw17.size
          clear hb17 hw16 z16
          clear cS lS lS1 lS2 cT lT lT1 lT2
          have cS := cellH S
          obtain ⟨lS, lS1, lS2⟩ := ltH S
          have cT := cellH T
          obtain ⟨lT, lT1, lT2⟩ := ltH T
          go_wp2_with fail
          refine (less_any r r2 A7 A10 c7 c10 _ (moved HR9.out (by (repeat' (first | with_reducible exact Below.refl _ _ | with_reducible assumption | with_reducible refine Below.drew ?_ | with_reducible refine below_drewN ?_ _ | with_reducible refine Below.setCell ?_ ?_ _ | with_reducible refine Below.alloc ?_ ?_ _ | omega | (simp; done) | (simp; omega))))) (moved HR10.out (by (repeat' (first | with_reducible exact Below.refl _ _ | with_reducible assumption | with_reducible refine Below.drew ?_ | with_reducible refine below_drewN ?_ _ | with_reducible refine Below.setCell ?_ ?_ _ | with_reducible refine Below.alloc ?_ ?_ _ | omega | (simp; done) | (simp; omega))))) (by omega) (by omega) HS7.out.canon HS10.out.canon).mono ?_
          rintro e w18 ⟨⟨_, _, _, rfl, _⟩, hb18⟩
          have hw18 : Below w.heap.size w w18 := stepH (by (repeat' (first | with_reducible exact Below.refl _ _ | with_reducible assumption | with_reducible refine Below.drew ?_ | with_reducible refine below_drewN ?_ _ | with_reducible refine Below.setCell ?_ ?_ _ | with_reducible refine Below.alloc ?_ ?_ _ | omega | (simp; done) | (simp; omega)))) hb18
          replace a9 : Below w9.heap.size w9 w18 := stepH (by (repeat' (first | with_reducible exact Below.refl _ _ | with_reducible assumption | with_reducible refine Below.drew ?_ | with_reducible refine below_drewN ?_ _ | with_reducible refine Below.setCell ?_ ?_ _ | with_reducible refine Below.alloc ?_ ?_ _ | omega | (simp; done) | (simp; omega)))) hb18
          replace ya9 := a9.size
          replace a10 : Below w10.heap.size w10 w18 := stepH (by (repeat' (first | with_reducible exact Below.refl _ _ | with_reducible assumption | with_reducible refine Below.drew ?_ | with_reducible refine below_drewN ?_ _ | with_reducible refine Below.setCell ?_ ?_ _ | with_reducible refine Below.alloc ?_ ?_ _ | omega | (simp; done) | (simp; omega)))) hb18
          replace ya10 := a10.size
          replace a11 : Below w11.heap.size w11 w18 := stepH (by (repeat' (first | with_reducible exact Below.refl _ _ | with_reducible assumption | with_reducible refine Below.drew ?_ | with_reducible refine below_drewN ?_ _ | with_reducible refine Below.setCell ?_ ?_ _ | with_reducible refine Below.alloc ?_ ?_ _ | omega | (simp; done) | (simp; omega)))) hb18
          replace ya11 := a11.size
          replace a16 : Below w16.heap.size w16 w18 := stepH (by (repeat' (first | with_reducible exact Below.refl _ _ | with_reducible assumption | with_reducible refine Below.drew ?_ | with_reducible refine below_drewN ?_ _ | with_reducible refine Below.setCell ?_ ?_ _ | with_reducible refine Below.alloc ?_ ?_ _ | omega | (simp; done) | (simp; omega)))) hb18
          replace ya16 := a16.size
          replace S := keepH hb18 S.out
          replace T := keepH hb18 T.out
          have z18 := hw18.size
          clear hb18 hw17 z17
          clear cS lS lS1 lS2 cT lT lT1 lT2
          have cS := cellH S
          obtain ⟨lS, lS1, lS2⟩ := ltH S
          have cT := cellH T
          obtain ⟨lT, lT1, lT2⟩ := ltH T
          have hQ : Own encU 2 91 w12.heap.size w16 (.slice (some ⟨g16, 0, none⟩) (r.length + 1) c16) (r ++ [⟨3, 0, ()⟩]) := Own.snoc Q16.out rfl rfl
          obtain ⟨A16, c16', e16, hc16, _, hrow16⟩ := Own.rows (fun x _ => encU_len x) hQ
          rw [List.length_append, List.length_singleton] at e16 hc16
          cases e16
          have HR16 := Lib.hid hrow16
          have hrc : r.length ≤ c16 := by omega
          clear hrow16 hQ
          go_wp2_with fail
          refine (sameSpans_yes r r.length (some ⟨g16, 0, none⟩) A11 c16 c11 _ rfl (moved (rowPre HR16.out) (by (repeat' (first | with_reducible exact Below.refl _ _ | with_reducible assumption | with_reducible refine Below.drew ?_ | with_reducible refine below_drewN ?_ _ | with_reducible refine Below.setCell ?_ ?_ _ | with_reducible refine Below.alloc ?_ ?_ _ | omega | (simp; done) | (simp; omega))))) (moved HR11.out (by (repeat' (first | with_reducible exact Below.refl _ _ | with_reducible assumption | with_reducible refine Below.drew ?_ | with_reducible refine below_drewN ?_ _ | with_reducible refine Below.setCell ?_ ?_ _ | with_reducible refine Below.alloc ?_ ?_ _ | omega | (simp; done) | (simp; omega))))) (by omega)).mono ?_
          rintro e w19 ⟨rfl, hb19⟩
          have hw19 : Below w.heap.size w w19 := stepH (by (repeat' (first | with_reducible exact Below.refl _ _ | with_reducible assumption | with_reducible refine Below.drew ?_ | with_reducible refine below_drewN ?_ _ | with_reducible refine Below.setCell ?_ ?_ _ | with_reducible refine Below.alloc ?_ ?_ _ | omega | (simp; done) | (simp; omega)))) hb19
          replace a9 : Below w9.heap.size w9 w19 := stepH (by (repeat' (first | with_reducible exact Below.refl _ _ | with_reducible assumption | with_reducible refine Below.drew ?_ | with_reducible refine below_drewN ?_ _ | with_reducible refine Below.setCell ?_ ?_ _ | with_reducible refine Below.alloc ?_ ?_ _ | omega | (simp; done) | (simp; omega)))) hb19
          replace ya9 := a9.size
          replace a10 : Below w10.heap.size w10 w19 := stepH (by (repeat' (first | with_reducible exact Below.refl _ _ | with_reducible assumption | with_reducible refine Below.drew ?_ | with_reducible refine below_drewN ?_ _ | with_reducible refine Below.setCell ?_ ?_ _ | with_reducible refine Below.alloc ?_ ?_ _ | omega | (simp; done) | (simp; omega)))) hb19
          replace ya10 := a10.size
          replace a11 : Below w11.heap.size w11 w19 := stepH (by (repeat' (first | with_reducible exact Below.refl _ _ | with_reducible assumption | with_reducible refine Below.drew ?_ | with_reducible refine below_drewN ?_ _ | with_reducible refine Below.setCell ?_ ?_ _ | with_reducible refine Below.alloc ?_ ?_ _ | omega | (simp; done) | (simp; omega)))) hb19
          replace ya11 := a11.size
          replace a16 : Below w16.heap.size w16 w19 := stepH (by (repeat' (first | with_reducible exact Below.refl _ _ | with_reducible assumption | with_reducible refine Below.drew ?_ | with_reducible refine below_drewN ?_ _ | with_reducible refine Below.setCell ?_ ?_ _ | with_reducible refine Below.alloc ?_ ?_ _ | omega | (simp; done) | (simp; omega)))) hb19
          replace ya16 := a16.size
          replace S := keepH hb19 S.out
          replace T := keepH hb19 T.out
          have z19 := hw19.size
          clear hb19 hw18 z18
          clear cS lS lS1 lS2 cT lT lT1 lT2
          have cS := cellH S
          obtain ⟨lS, lS1, lS2⟩ := ltH S
          have cT := cellH T
          obtain ⟨lT, lT1, lT2⟩ := ltH T
          go_wp2_with fail
          refine (spansD_any r A7 c7 _ (moved HR9.out (by (repeat' (first | with_reducible exact Below.refl _ _ | with_reducible assumption | with_reducible refine Below.drew ?_ | with_reducible refine below_drewN ?_ _ | with_reducible refine Below.setCell ?_ ?_ _ | with_reducible refine Below.alloc ?_ ?_ _ | omega | (simp; done) | (simp; omega))))) (by omega) HA7.out).mono ?_
          rintro e w20 ⟨v20, rfl, hown20, hb20⟩
          have hw20 : Below w.heap.size w w20 := stepH (by (repeat' (first | with_reducible exact Below.refl _ _ | with_reducible assumption | with_reducible refine Below.drew ?_ | with_reducible refine below_drewN ?_ _ | with_reducible refine Below.setCell ?_ ?_ _ | with_reducible refine Below.alloc ?_ ?_ _ | omega | (simp; done) | (simp; omega)))) hb20
          replace a9 : Below w9.heap.size w9 w20 := stepH (by (repeat' (first | with_reducible exact Below.refl _ _ | with_reducible assumption | with_reducible refine Below.drew ?_ | with_reducible refine below_drewN ?_ _ | with_reducible refine Below.setCell ?_ ?_ _ | with_reducible refine Below.alloc ?_ ?_ _ | omega | (simp; done) | (simp; omega)))) hb20
          replace ya9 := a9.size
          replace a10 : Below w10.heap.size w10 w20 := stepH (by (repeat' (first | with_reducible exact Below.refl _ _ | with_reducible assumption | with_reducible refine Below.drew ?_ | with_reducible refine below_drewN ?_ _ | with_reducible refine Below.setCell ?_ ?_ _ | with_reducible refine Below.alloc ?_ ?_ _ | omega | (simp; done) | (simp; omega)))) hb20
          replace ya10 := a10.size
          replace a11 : Below w11.heap.size w11 w20 := stepH (by (repeat' (first | with_reducible exact Below.refl _ _ | with_reducible assumption | with_reducible refine Below.drew ?_ | with_reducible refine below_drewN ?_ _ | with_reducible refine Below.setCell ?_ ?_ _ | with_reducible refine Below.alloc ?_ ?_ _ | omega | (simp; done) | (simp; omega)))) hb20
          replace ya11 := a11.size
          replace a16 : Below w16.heap.size w16 w20 := stepH (by (repeat' (first | with_reducible exact Below.refl _ _ | with_reducible assumption | with_reducible refine Below.drew ?_ | with_reducible refine below_drewN ?_ _ | with_reducible refine Below.setCell ?_ ?_ _ | with_reducible refine Below.alloc ?_ ?_ _ | omega | (simp; done) | (simp; omega)))) hb20
          replace ya16 := a16.size
          obtain ⟨A20, c20, rfl, hr20, _, _⟩ := own_line (fun x _ => encU_len x) hown20
          have HR20 := Lib.hid hr20
          clear hr20 hown20
          replace S := keepH hb20 S.out
          replace T := keepH hb20 T.out
          have z20 := hw20.size
          clear hb20 hw19 z19
          clear cS lS lS1 lS2 cT lT lT1 lT2
          have cS := cellH S
          obtain ⟨lS, lS1, lS2⟩ := ltH S
          have cT := cellH T
          obtain ⟨lT, lT1, lT2⟩ := ltH T
          have a20 : Below w20.heap.size w20 w20 := Below.refl _ _
          have ya20 := a20.size
          go_wp2_with fail
          refine (sameSpans_yes r r.length A20 A11 c20 c11 _ rfl (moved HR20.out (by (repeat' (first | with_reducible exact Below.refl _ _ | with_reducible assumption | with_reducible refine Below.drew ?_ | with_reducible refine below_drewN ?_ _ | with_reducible refine Below.setCell ?_ ?_ _ | with_reducible refine Below.alloc ?_ ?_ _ | omega | (simp; done) | (simp; omega))))) (moved HR11.out (by (repeat' (first | with_reducible exact Below.refl _ _ | with_reducible assumption | with_reducible refine Below.drew ?_ | with_reducible refine below_drewN ?_ _ | with_reducible refine Below.setCell ?_ ?_ _ | with_reducible refine Below.alloc ?_ ?_ _ | omega | (simp; done) | (simp; omega))))) (by omega)).mono ?_
          rintro e w21 ⟨rfl, hb21⟩
          have hw21 : Below w.heap.size w w21 := stepH (by (repeat' (first | with_reducible exact Below.refl _ _ | with_reducible assumption | with_reducible refine Below.drew ?_ | with_reducible refine below_drewN ?_ _ | with_reducible refine Below.setCell ?_ ?_ _ | with_reducible refine Below.alloc ?_ ?_ _ | omega | (simp; done) | (simp; omega)))) hb21
          replace a9 : Below w9.heap.size w9 w21 := stepH (by (repeat' (first | with_reducible exact Below.refl _ _ | with_reducible assumption | with_reducible refine Below.drew ?_ | with_reducible refine below_drewN ?_ _ | with_reducible refine Below.setCell ?_ ?_ _ | with_reducible refine Below.alloc ?_ ?_ _ | omega | (simp; done) | (simp; omega)))) hb21
          replace ya9 := a9.size
          replace a10 : Below w10.heap.size w10 w21 := stepH (by (repeat' (first | with_reducible exact Below.refl _ _ | with_reducible assumption | with_reducible refine Below.drew ?_ | with_reducible refine below_drewN ?_ _ | with_reducible refine Below.setCell ?_ ?_ _ | with_reducible refine Below.alloc ?_ ?_ _ | omega | (simp; done) | (simp; omega)))) hb21
          replace ya10 := a10.size
          replace a11 : Below w11.heap.size w11 w21 := stepH (by (repeat' (first | with_reducible exact Below.refl _ _ | with_reducible assumption | with_reducible refine Below.drew ?_ | with_reducible refine below_drewN ?_ _ | with_reducible refine Below.setCell ?_ ?_ _ | with_reducible refine Below.alloc ?_ ?_ _ | omega | (simp; done) | (simp; omega)))) hb21
          replace ya11 := a11.size
          replace a16 : Below w16.heap.size w16 w21 := stepH (by (repeat' (first | with_reducible exact Below.refl _ _ | with_reducible assumption | with_reducible refine Below.drew ?_ | with_reducible refine below_drewN ?_ _ | with_reducible refine Below.setCell ?_ ?_ _ | with_reducible refine Below.alloc ?_ ?_ _ | omega | (simp; done) | (simp; omega)))) hb21
          replace ya16 := a16.size
          replace a20 : Below w20.heap.size w20 w21 := stepH (by (repeat' (first | with_reducible exact Below.refl _ _ | with_reducible assumption | with_reducible refine Below.drew ?_ | with_reducible refine below_drewN ?_ _ | with_reducible refine Below.setCell ?_ ?_ _ | with_reducible refine Below.alloc ?_ ?_ _ | omega | (simp; done) | (simp; omega)))) hb21
          replace ya20 := a20.size
          replace S := keepH hb21 S.out
          replace T := keepH hb21 T.out
          have z21 := hw21.size
          clear hb21 hw20 z20
          clear cS lS lS1 lS2 cT lT lT1 lT2
          have cS := cellH S
          obtain ⟨lS, lS1, lS2⟩ := ltH S
          have cT := cellH T
          obtain ⟨lT, lT1, lT2⟩ := ltH T
          have hxs : xs.length = r.length * 2 := HXS.out
          have p3 := cellOf a16 (own_val (i := r.length * 2) (u := .int .i64 1) P16.out (by omega) (by rw [List.getElem?_append_right (by omega), hxs, Nat.sub_self]; rfl))
          obtain ⟨_, _, e17, _, p4, _⟩ := cells2 (p := ⟨3, 0, ()⟩) (HR16.out.below a16 (Nat.le_refl _)) (by rw [List.getElem?_append_right (Nat.le_refl _), Nat.sub_self]; rfl)
          cases e17
          rw [Nat.zero_add] at p4
          have kw2 : IntKind.i64.wrap ((r.length : Int) + 2) = (r.length : Int) + 2 := by rw [IntKind.wrap_i64]; omega
          have i2 : (r.length : Int) < ((r.length + 2 : Nat) : Int) := by omega
          have i3 : (r.length : Int) < ((r.length + 1 : Nat) : Int) := by omega
          have i4 : (0 : Int) ≤ (r.length : Int) := by omega
          have e9 : (((r.length + 2 : Nat) : Int) == (r.length : Int) + 2) = true := by simp
          go_wp2_with fail
          go_ret
          exact ⟨rfl, by (repeat' (first | with_reducible exact Below.refl _ _ | with_reducible assumption | with_reducible refine Below.drew ?_ | with_reducible refine below_drewN ?_ _ | with_reducible refine Below.setCell ?_ ?_ _ | with_reducible refine Below.alloc ?_ ?_ _ | omega | (simp; done) | (simp; omega)))⟩

set_option maxRecDepth 100000 in
theorem dayOwn_walk (l m : List (Pc Unit)) (A B : Option Addr) (c d : Nat) (w : World) (hl : RowAt encU 2 w w.heap.size A l) (hm : RowAt encU 2 w w.heap.size B m) (hT : Tabs w) :
    Calls Tryd.prog 6 #[.slice A l.length c, .slice B m.length d] w fun e w' => e = .returned (.bool true) ∧ Below w.heap.size w w' := by
  by_cases h1 : 300 < l.length
  · exact dayOwn_x l m A B c d w h1 hT
  · by_cases h2 : 300 < m.length
    · exact dayOwn_y l m A B c d w (by omega) h2 hT
    · by_cases hv : ∀ p ∈ l, ValidS MD p
      · by_cases hu : ∀ p ∈ m, ValidS MD p
        · exact dayOwn_g l m A B c d w hl hm (by omega) (by omega) hv hu hT
        · exact dayOwn_b l m A B c d w hl hm (by omega) (by omega) hv hu hT
      · exact dayOwn_a l m A B c d w hl hm (by omega) (by omega) hv hT

end Go.Proofs.YtmodofbelpaelaaDoor
