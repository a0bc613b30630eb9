/- A timeline of pieces, one laid over the other: walk. -/
import Derived.Test.YtmodofbelpaelaaDoorLineE
import Derived.Test.YtmodofbelpaelaaDoorLineO
namespace Go.Proofs.YtmodofbelpaelaaDoor
open Go.RowKit

theorem over1_any (x y : Option Int) (w : World) : Calls Tryd.prog 81 #[.int .i64 (vN x), .bool (vB6 x), .int .i64 (vN y), .bool (vB6 y)] w fun e w' => joinAns (overF x y) e ∧ Below w.heap.size w w' := by
  cases x with
  | some v =>
    show Calls Tryd.prog 81 #[.int .i64 v, .bool true, .int .i64 (vN y), .bool (vB6 y)] w _
    go_enter Tryd.func81, Tryd.ntmps81
    go_wp2_with fail
    go_ret2
    exact ⟨⟨v, rfl, fun v' h => by cases h; rfl⟩, by (repeat' (first | with_reducible exact Below.refl _ _ | with_reducible assumption | with_reducible refine Below.drew ?_ | with_reducible refine below_drewN ?_ _ | with_reducible refine Below.setCell ?_ ?_ _ | with_reducible refine Below.alloc ?_ ?_ _ | omega | (simp; done) | (simp; omega)))⟩
  | none =>
    show Calls Tryd.prog 81 #[.int .i64 0, .bool false, .int .i64 (vN y), .bool (vB6 y)] w _
    go_enter Tryd.func81, Tryd.ntmps81
    go_wp2_with fail
    go_ret2
    exact ⟨⟨vN y, rfl, fun v' h => by have h : y = some v' := h; rw [h]; rfl⟩, by (repeat' (first | with_reducible exact Below.refl _ _ | with_reducible assumption | with_reducible refine Below.drew ?_ | with_reducible refine below_drewN ?_ _ | with_reducible refine Below.setCell ?_ ?_ _ | with_reducible refine Below.alloc ?_ ?_ _ | omega | (simp; done) | (simp; omega)))⟩

/-- a timeline in memory -/
def LineAt (w : World) (v : Value) (r : List (Pc Int)) : Prop := ∃ A c, v = .agg #[.slice A r.length c] ∧ RowAt encP 3 w w.heap.size A r ∧ (A = none → c = 0)
theorem LineAt.below {w w' : World} {v : Value} {r : List (Pc Int)} (h : LineAt w v r) (hb : Below w.heap.size w w') : LineAt w' v r := by
  obtain ⟨A, c, h1, h2, h3⟩ := h
  exact ⟨A, c, h1, (h2.below hb (Nat.le_refl _)).more hb.size, h3⟩

set_option maxRecDepth 10000 in
set_option maxHeartbeats 4000000 in
theorem over6_any (l m : List (Pc Int)) (A B : Option Addr) (c d : Nat) (w : World) (hl : RowAt encP 3 w w.heap.size A l) (hm : RowAt encP 3 w w.heap.size B m) (h1 : l.length ≤ 1000) (h2 : m.length ≤ 1000) (rl : Rise 0 l) (rm : Rise 0 m) (ul : UpTo MD l) (um : UpTo MD m) :
    Calls Tryd.prog 33 #[.agg #[.slice A l.length c], .agg #[.slice B m.length d]] w fun e w' => (∃ A' c' r, e = .returned (.agg #[.slice A' r.length c']) ∧ RowAt encP 3 w' w'.heap.size A' r ∧ (A' = none → c' = 0) ∧ (∀ a, A' = some a → w.heap.size ≤ a.block) ∧ Canon MD r ∧ ∀ n, valL r n = overF (valL l n) (valL m n)) ∧ Below w.heap.size w w' := by
  have HL := Lib.hid hl
  have HM := Lib.hid hm
  have HS := Lib.hid (over_spec (cutsL_days l m) (by decide) rl rm ul um)
  clear hl hm ul um
  go_enter Tryd.func33, Tryd.ntmps33
  go_wp2_with fail
  refine (join6_any l m A B c d 81 #[] overF _ ((HL.out.below (by (repeat' (first | with_reducible exact Below.refl _ _ | with_reducible assumption | with_reducible refine Below.drew ?_ | with_reducible refine below_drewN ?_ _ | with_reducible refine Below.setCell ?_ ?_ _ | with_reducible refine Below.alloc ?_ ?_ _ | omega | (simp; done) | (simp; omega)))) (Nat.le_refl _)).more (by simp; omega)) ((HM.out.below (by (repeat' (first | with_reducible exact Below.refl _ _ | with_reducible assumption | with_reducible refine Below.drew ?_ | with_reducible refine below_drewN ?_ _ | with_reducible refine Below.setCell ?_ ?_ _ | with_reducible refine Below.alloc ?_ ?_ _ | omega | (simp; done) | (simp; omega)))) (Nat.le_refl _)).more (by simp; omega)) h1 h2 rl rm (enters_of Tryd.func81 (by kernel_rfl) rfl) (fun x y W _ => over1_any x y W)).mono ?_
  rintro e w1 ⟨⟨A1, c1, r, rfl, hr, hA, hA2, hq⟩, hb1⟩
  have hw1 : Below w.heap.size w w1 := stepH (by (repeat' (first | with_reducible exact Below.refl _ _ | with_reducible assumption | with_reducible refine Below.drew ?_ | with_reducible refine below_drewN ?_ _ | with_reducible refine Below.setCell ?_ ?_ _ | with_reducible refine Below.alloc ?_ ?_ _ | omega | (simp; done) | (simp; omega)))) hb1
  have R := keepH hb1 (g := w.heap.size + 1 + 1) (blk_new (by simp))
  have cR := cellH R
  have fzR := frozH R
  have lR := lt_of_H R
  have HR := Lib.hid hr
  have HQ := Lib.hid hq
  clear hb1 hr hq
  go_wp2_with fail
  refine bodyPost_ret (v := .agg #[.slice A1 r.length c1]) (by simp [results, Tryd.results33, go_sem, cR]) rfl ⟨⟨A1, c1, r, rfl, ?_, hA, fun a ha => by have h := hA2 a ha; simp at h; omega, by rw [HQ.out]; exact HS.out.1, by rw [HQ.out]; exact HS.out.2⟩, by (repeat' (first | with_reducible exact Below.refl _ _ | with_reducible assumption | with_reducible refine Below.drew ?_ | with_reducible refine below_drewN ?_ _ | with_reducible refine Below.setCell ?_ ?_ _ | with_reducible refine Below.alloc ?_ ?_ _ | omega | (simp; done) | (simp; omega)))⟩
  exact rowKeepL HR.out (by simp) (fun a ha => Below.heap_setCell _ _ _ _ (by have h := hA2 a ha; simp at h; dsimp only; omega))

/-- the sentinels of this chapter -/
def L6 : List Nat := [4]

set_option maxRecDepth 10000 in
theorem validS_ok (f t : Int) (w : World) (h : 0 ≤ f ∧ f < t ∧ t ≤ MD) : Calls Tryd.prog 74 #[.agg #[.int .i64 f, .int .i64 t]] w fun e w' => e = .returned .nilIface ∧ Below w.heap.size w w' := by
  obtain ⟨h1, h2, h3⟩ := h
  have e1 : decide (f < 0) = false := decide_eq_false (by omega)
  have e2 : decide (t ≤ f) = false := decide_eq_false (by omega)
  have h3 : t ≤ 3652059 := h3
  have e3 : decide ((3652059 : Int) < t) = false := decide_eq_false (by omega)
  go_enter Tryd.func74, Tryd.ntmps74
  go_wp2_with fail
  go_ret
  exact ⟨rfl, by (repeat' (first | with_reducible exact Below.refl _ _ | with_reducible assumption | with_reducible refine Below.drew ?_ | with_reducible refine below_drewN ?_ _ | with_reducible refine Below.setCell ?_ ?_ _ | with_reducible refine Below.alloc ?_ ?_ _ | omega | (simp; done) | (simp; omega)))⟩
theorem validS_bad1 (f t : Int) (E : Nat → Addr) (w : World) (h1 : f < 0) (hE : Env L6 E w) : Calls Tryd.prog 74 #[.agg #[.int .i64 f, .int .i64 t]] w fun e w' => e = .returned (.iface 245 (.pointer (some (E 4)))) ∧ Below w.heap.size w w' := by
  have e1 : decide (f < 0) = true := decide_eq_true h1
  have ge := hE.cell 4 (by decide)
  have lge := cell_lt ge
  have hne : 4 < w.heap.size + 1 ∧ 4 < w.heap.size + 1 + 1 ∧ 4 < w.heap.size + 1 + 1 + 1 ∧ 4 < w.heap.size + 1 + 1 + 1 + 1 := by dsimp only at lge; omega
  go_enter Tryd.func74, Tryd.ntmps74
  go_wp2_with fail
  go_ret
  exact ⟨rfl, by (repeat' (first | with_reducible exact Below.refl _ _ | with_reducible assumption | with_reducible refine Below.drew ?_ | with_reducible refine below_drewN ?_ _ | with_reducible refine Below.setCell ?_ ?_ _ | with_reducible refine Below.alloc ?_ ?_ _ | omega | (simp; done) | (simp; omega)))⟩
theorem validS_bad2 (f t : Int) (E : Nat → Addr) (w : World) (h1 : 0 ≤ f) (h2 : t ≤ f) (hE : Env L6 E w) : Calls Tryd.prog 74 #[.agg #[.int .i64 f, .int .i64 t]] w fun e w' => e = .returned (.iface 245 (.pointer (some (E 4)))) ∧ Below w.heap.size w w' := by
  have e1 : decide (f < 0) = false := decide_eq_false (by omega)
  have e2 : decide (t ≤ f) = true := decide_eq_true h2
  have ge := hE.cell 4 (by decide)
  have lge := cell_lt ge
  have hne : 4 < w.heap.size + 1 ∧ 4 < w.heap.size + 1 + 1 ∧ 4 < w.heap.size + 1 + 1 + 1 ∧ 4 < w.heap.size + 1 + 1 + 1 + 1 := by dsimp only at lge; omega
  go_enter Tryd.func74, Tryd.ntmps74
  go_wp2_with fail
  go_ret
  exact ⟨rfl, by (repeat' (first | with_reducible exact Below.refl _ _ | with_reducible assumption | with_reducible refine Below.drew ?_ | with_reducible refine below_drewN ?_ _ | with_reducible refine Below.setCell ?_ ?_ _ | with_reducible refine Below.alloc ?_ ?_ _ | omega | (simp; done) | (simp; omega)))⟩
theorem validS_bad3 (f t : Int) (E : Nat → Addr) (w : World) (h1 : 0 ≤ f) (h2 : f < t) (h3 : (3652059 : Int) < t) (hE : Env L6 E w) : Calls Tryd.prog 74 #[.agg #[.int .i64 f, .int .i64 t]] w fun e w' => e = .returned (.iface 245 (.pointer (some (E 4)))) ∧ Below w.heap.size w w' := by
  have e1 : decide (f < 0) = false := decide_eq_false (by omega)
  have e2 : decide (t ≤ f) = false := decide_eq_false (by omega)
  have e3 : decide ((3652059 : Int) < t) = true := decide_eq_true h3
  have ge := hE.cell 4 (by decide)
  have lge := cell_lt ge
  have hne : 4 < w.heap.size + 1 ∧ 4 < w.heap.size + 1 + 1 ∧ 4 < w.heap.size + 1 + 1 + 1 ∧ 4 < w.heap.size + 1 + 1 + 1 + 1 := by dsimp only at lge; omega
  go_enter Tryd.func74, Tryd.ntmps74
  go_wp2_with fail
  go_ret
  exact ⟨rfl, by (repeat' (first | with_reducible exact Below.refl _ _ | with_reducible assumption | with_reducible refine Below.drew ?_ | with_reducible refine below_drewN ?_ _ | with_reducible refine Below.setCell ?_ ?_ _ | with_reducible refine Below.alloc ?_ ?_ _ | omega | (simp; done) | (simp; omega)))⟩
theorem validS_bad (f t v : Int) (E : Nat → Addr) (w : World) (h : ¬ ValidP MD ⟨f, t, v⟩) (hE : Env L6 E w) : Calls Tryd.prog 74 #[.agg #[.int .i64 f, .int .i64 t]] w fun e w' => e = .returned (.iface 245 (.pointer (some (E 4)))) ∧ Below w.heap.size w w' := by
  by_cases h1 : f < 0
  · exact validS_bad1 f t E w h1 hE
  · by_cases h2 : t ≤ f
    · exact validS_bad2 f t E w (by omega) h2 hE
    · by_cases h3 : (3652059 : Int) < t
      · exact validS_bad3 f t E w (by omega) (by omega) h3 hE
      · exact absurd (show ValidP MD ⟨f, t, v⟩ from ⟨Int.not_lt.1 h1, Int.not_le.1 h2, Int.not_lt.1 h3⟩) h

end Go.Proofs.YtmodofbelpaelaaDoor
