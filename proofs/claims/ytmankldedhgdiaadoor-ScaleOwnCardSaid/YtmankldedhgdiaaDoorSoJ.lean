/- Add, Times of scales that are ones: walks. -/
import Derived.Test.YtmankldedhgdiaaDoorSoH
import Derived.Test.YtmankldedhgdiaaDoorSoI
namespace Go.Proofs.YtmankldedhgdiaaDoor
open Go.RowKit

theorem in4_good {gs : List (Rat × Rat)} (h : ∀ b ∈ gs, GoodB b) : ∀ b ∈ gs.map bR, In4 b := by
  intro b hb
  obtain ⟨y, hy, rfl⟩ := List.mem_map.1 hb
  exact ⟨bd2 (h y hy).1, bd2n (h y hy).1, bd2 (h y hy).2, bd2n (h y hy).2⟩
theorem valid_good (gs : List (Rat × Rat)) (A : Option Addr) (c : Nat) (E : Nat → Addr) (w : World) (hl : RowAt encR 4 w w.heap.size A (gs.map bR)) (h1 : gs.length ≤ 32) (hg : ∀ b ∈ gs, GoodB b) (hs : scaleE (gs.map bR) = none) (hE : Env LC E w) :
    Calls Tryd.prog 24 #[.slice A gs.length c] w fun e w' => e = .returned .nilIface ∧ Below w.heap.size w w' := by
  have h := valid15_any (gs.map bR) A c E w hl (by rw [List.length_map]; omega) (in4_good hg) hE
  rw [List.length_map, hs] at h
  exact h
theorem ask_good (gs : List (Rat × Rat)) (A : Option Addr) (c : Nat) (k : Rat) (E : Nat → Addr) (w : World) (hl : RowAt encR 4 w w.heap.size A (gs.map bR)) (h1 : gs.length ≤ 32) (hg : ∀ b ∈ gs, GoodB b) (hs : scaleE (gs.map bR) = none) (hk : Good k) (hE : Env LC E w) :
    Calls Tryd.prog 30 #[.slice A gs.length c, .agg #[.int .i64 k.num, .int .i64 k.den]] w fun e w' => e = .returned .nilIface ∧ Below w.heap.size w w' := by
  have h := ask15_any (gs.map bR) A c k.num k.den E w hl (by rw [List.length_map]; omega) (in4_good hg) (bd2 hk) (bd2n hk) hE
  rw [List.length_map, askE_ok hs (by rw [validB_good]; exact decide_eq_true hk)] at h
  exact h

set_option maxRecDepth 100000 in
set_option maxHeartbeats 4000000 in
theorem add15_any (gs ts : List (Rat × Rat)) (A B : Option Addr) (c d : Nat) (E : Nat → Addr) (w : World) (hl : RowAt encR 4 w w.heap.size A (gs.map bR)) (hlA : A = none → gs.length = 0 ∧ c = 0) (hl1 : gs.length ≤ 32) (hlg : ∀ b ∈ gs, GoodB b) (hls : scaleE (gs.map bR) = none) (hr : RowAt encR 4 w w.heap.size B (ts.map bR)) (hrA : B = none → ts.length = 0 ∧ d = 0) (hr1 : ts.length ≤ 32) (hrg : ∀ b ∈ ts, GoodB b) (hrs : scaleE (ts.map bR) = none) (hE : Env LC E w) :
    Calls Tryd.prog 10 #[.slice A gs.length c, .slice B ts.length d] w fun e w' => (∃ v err l, e = .returned (.tuple #[v, err]) ∧ IsF gs ts l ∧ Own encR 4 31 w.heap.size w' v ((withL addO gs ts l).map bR)) ∧ Below w.heap.size w w' := by
  have HV1 := Lib.hid (fun w' (h : Below w.heap.size w w') => valid_good gs A c E w' ((hl.below h (Nat.le_refl _)).more h.size) hl1 hlg hls (hE.below h))
  have HV2 := Lib.hid (fun w' (h : Below w.heap.size w w') => valid_good ts B d E w' ((hr.below h (Nat.le_refl _)).more h.size) hr1 hrg hrs (hE.below h))
  have HW := Lib.hid (fun w' (h : Below w.heap.size w w') => withAdd_any gs ts A B c d E w' ((hl.below h (Nat.le_refl _)).more h.size) ((hr.below h (Nat.le_refl _)).more h.size) hlA hrA hl1 hr1 hlg hrg (hE.below h))
  clear hl hr hlA hrA hl1 hr1 hlg hrg hls hrs hE
  go_enter Tryd.func10, Tryd.ntmps10
  go_wp2_with fail
  refine (HV1.out _ (by (repeat' (first | with_reducible exact Below.refl _ _ | with_reducible assumption | with_reducible refine Below.drew ?_ | with_reducible refine below_drewN ?_ _ | with_reducible refine Below.setCell ?_ ?_ _ | with_reducible refine Below.alloc ?_ ?_ _ | omega | (simp; done) | (simp; omega))))).mono ?_
  rintro e w1 ⟨rfl, hb1⟩
  have hw1 : Below w.heap.size w w1 := stepH (by (repeat' (first | with_reducible exact Below.refl _ _ | with_reducible assumption | with_reducible refine Below.drew ?_ | with_reducible refine below_drewN ?_ _ | with_reducible refine Below.setCell ?_ ?_ _ | with_reducible refine Below.alloc ?_ ?_ _ | omega | (simp; done) | (simp; omega)))) hb1
  have z1 := hw1.size
  clear hb1
  go_wp2_with fail
  refine (HV2.out _ (by (repeat' (first | with_reducible exact Below.refl _ _ | with_reducible assumption | with_reducible refine Below.drew ?_ | with_reducible refine below_drewN ?_ _ | with_reducible refine Below.setCell ?_ ?_ _ | with_reducible refine Below.alloc ?_ ?_ _ | omega | (simp; done) | (simp; omega))))).mono ?_
  rintro e w2 ⟨rfl, hb2⟩
  have hw2 : Below w.heap.size w w2 := stepH (by (repeat' (first | with_reducible exact Below.refl _ _ | with_reducible assumption | with_reducible refine Below.drew ?_ | with_reducible refine below_drewN ?_ _ | with_reducible refine Below.setCell ?_ ?_ _ | with_reducible refine Below.alloc ?_ ?_ _ | omega | (simp; done) | (simp; omega)))) hb2
  have z2 := hw2.size
  clear hb2
  go_wp2_with fail
  refine (HW.out _ (by (repeat' (first | with_reducible exact Below.refl _ _ | with_reducible assumption | with_reducible refine Below.drew ?_ | with_reducible refine below_drewN ?_ _ | with_reducible refine Below.setCell ?_ ?_ _ | with_reducible refine Below.alloc ?_ ?_ _ | omega | (simp; done) | (simp; omega))))).mono ?_
  rintro e w3 ⟨⟨v, err, l, rfl, hI, ho⟩, hb3⟩
  have hw3 : Below w.heap.size w w3 := stepH (by (repeat' (first | with_reducible exact Below.refl _ _ | with_reducible assumption | with_reducible refine Below.drew ?_ | with_reducible refine below_drewN ?_ _ | with_reducible refine Below.setCell ?_ ?_ _ | with_reducible refine Below.alloc ?_ ?_ _ | omega | (simp; done) | (simp; omega)))) hb3
  have HI := Lib.hid hI
  have HO := Lib.hid (ownsRow_base (c := w.heap.size) ho z2)
  clear hb3 hI ho
  go_wp2_with fail
  go_ret2
  refine ⟨?_, by (repeat' (first | with_reducible exact Below.refl _ _ | with_reducible assumption | with_reducible refine Below.drew ?_ | with_reducible refine below_drewN ?_ _ | with_reducible refine Below.setCell ?_ ?_ _ | with_reducible refine Below.alloc ?_ ?_ _ | omega | (simp; done) | (simp; omega)))⟩
  first | exact ⟨_, _, l, rfl, HI.out, HO.out⟩ | exact ⟨_, ⟨_, rfl⟩, l, HI.out, HO.out⟩

set_option maxRecDepth 100000 in
set_option maxHeartbeats 4000000 in
theorem times15_any (gs : List (Rat × Rat)) (A : Option Addr) (c : Nat) (k : Rat) (E : Nat → Addr) (w : World) (hl : RowAt encR 4 w w.heap.size A (gs.map bR)) (hlA : A = none → gs.length = 0 ∧ c = 0) (hl1 : gs.length ≤ 32) (hlg : ∀ b ∈ gs, GoodB b) (hls : scaleE (gs.map bR) = none) (hk : Good k) (hE : Env LC E w) :
    Calls Tryd.prog 11 #[.slice A gs.length c, .agg #[.int .i64 k.num, .int .i64 k.den]] w fun e w' => (∃ v err l, e = .returned (.tuple #[v, err]) ∧ IsF gs [] l ∧ Own encR 4 31 w.heap.size w' v ((withL (fun a _ => mulO k a) gs [] l).map bR)) ∧ Below w.heap.size w w' := by
  have HV1 := Lib.hid (fun w' (h : Below w.heap.size w w') => ask_good gs A c k E w' ((hl.below h (Nat.le_refl _)).more h.size) hl1 hlg hls hk (hE.below h))
  have HW := Lib.hid (fun Kb w' (h : Below w.heap.size w w') hK => withTimes_any gs [] A none c 0 Kb k E w' ((hl.below h (Nat.le_refl _)).more h.size) RowAt.nil hlA (fun _ => ⟨rfl, rfl⟩) hl1 (Nat.zero_le _) hlg (fun b hb => by cases hb) hK hk (hE.below h))
  clear hl hlA hl1 hlg hls hk hE
  go_enter Tryd.func11, Tryd.ntmps11
  go_wp2_with fail
  refine (HV1.out _ (by (repeat' (first | with_reducible exact Below.refl _ _ | with_reducible assumption | with_reducible refine Below.drew ?_ | with_reducible refine below_drewN ?_ _ | with_reducible refine Below.setCell ?_ ?_ _ | with_reducible refine Below.alloc ?_ ?_ _ | omega | (simp; done) | (simp; omega))))).mono ?_
  rintro e w1 ⟨rfl, hb1⟩
  have hw1 : Below w.heap.size w w1 := stepH (by (repeat' (first | with_reducible exact Below.refl _ _ | with_reducible assumption | with_reducible refine Below.drew ?_ | with_reducible refine below_drewN ?_ _ | with_reducible refine Below.setCell ?_ ?_ _ | with_reducible refine Below.alloc ?_ ?_ _ | omega | (simp; done) | (simp; omega)))) hb1
  have K := keepH hb1 (g := w.heap.size) (blk_new rfl)
  have z1 := hw1.size
  clear hb1
  have cK := cellH K
  obtain ⟨lK, lK1, lK2⟩ := ltH K
  go_wp2_with fail
  refine (HW.out w.heap.size _ (by (repeat' (first | with_reducible exact Below.refl _ _ | with_reducible assumption | with_reducible refine Below.drew ?_ | with_reducible refine below_drewN ?_ _ | with_reducible refine Below.setCell ?_ ?_ _ | with_reducible refine Below.alloc ?_ ?_ _ | omega | (simp; done) | (simp; omega)))) K).mono ?_
  rintro e w3 ⟨⟨v, err, l, rfl, hI, ho⟩, hb3⟩
  have hw3 : Below w.heap.size w w3 := stepH (by (repeat' (first | with_reducible exact Below.refl _ _ | with_reducible assumption | with_reducible refine Below.drew ?_ | with_reducible refine below_drewN ?_ _ | with_reducible refine Below.setCell ?_ ?_ _ | with_reducible refine Below.alloc ?_ ?_ _ | omega | (simp; done) | (simp; omega)))) hb3
  have HI := Lib.hid hI
  have HO := Lib.hid (ownsRow_base (c := w.heap.size) ho z1)
  clear hb3 hI ho
  go_wp2_with fail
  go_ret2
  refine ⟨?_, by (repeat' (first | with_reducible exact Below.refl _ _ | with_reducible assumption | with_reducible refine Below.drew ?_ | with_reducible refine below_drewN ?_ _ | with_reducible refine Below.setCell ?_ ?_ _ | with_reducible refine Below.alloc ?_ ?_ _ | omega | (simp; done) | (simp; omega)))⟩
  first | exact ⟨_, _, l, rfl, HI.out, HO.out⟩ | exact ⟨_, ⟨_, rfl⟩, l, HI.out, HO.out⟩

end Go.Proofs.YtmankldedhgdiaaDoor
