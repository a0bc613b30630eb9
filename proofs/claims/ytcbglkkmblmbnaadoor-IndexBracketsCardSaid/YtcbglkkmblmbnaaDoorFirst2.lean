/- The walk of chapter 2's examples (tithelaw2.first): it answers true. -/
import Derived.Test.YtcbglkkmblmbnaaDoorShare
import Derived.Test.YtcbglkkmblmbnaaDoorRoundR
namespace Go.Proofs.YtcbglkkmblmbnaaDoor
open Go.RowKit

/-- the i-th word of a way -/
def wordS : Nat → ByteArray
  | 0 => ⟨#[110, 111, 110, 101]⟩ | 1 => ⟨#[100, 111, 119, 110]⟩ | 2 => ⟨#[117, 112]⟩ | 3 => ⟨#[102, 108, 111, 111, 114]⟩ | 4 => ⟨#[99, 101, 105, 108]⟩ | 5 => ⟨#[104, 97, 108, 102, 32, 117, 112]⟩ | _ => ⟨#[104, 97, 108, 102, 32, 101, 118, 101, 110]⟩
/-- the words lie in their variable -/
def Words (w : World) : Prop := ∀ i, i < 7 → w.cell? ⟨7, i, none⟩ = some (.string (wordS i))
theorem Words.lt {w : World} (h : Words w) : 7 < w.heap.size := cell_lt (h 0 (by omega))
theorem Words.below {w w' : World} (h : Words w) (hb : Below w.heap.size w w') : Words w' := fun i hi => (hb.cell (p := ⟨7, i, none⟩) h.lt).trans (h i hi)

set_option maxRecDepth 100000 in
set_option maxHeartbeats 2000000 in
theorem mode_even (w : World) (hW : Words w) :
    Calls Tryd.prog 39 #[.string ⟨#[104, 97, 108, 102, 32, 101, 118, 101, 110]⟩] w fun e w' => e = .returned (.tuple #[.int .i64 6, .nilIface]) ∧ Below w.heap.size w w' := by
  have d0 := hW 0 (by omega)
  have d1 := hW 1 (by omega)
  have d2 := hW 2 (by omega)
  have d3 := hW 3 (by omega)
  have d4 := hW 4 (by omega)
  have d5 := hW 5 (by omega)
  have d6 := hW 6 (by omega)
  unfold wordS at d0 d1 d2 d3 d4 d5 d6
  clear hW
  have i0 : ∀ w, (Instr.index 90 (.agg #[.string ⟨#[110, 111, 110, 101]⟩, .string ⟨#[100, 111, 119, 110]⟩, .string ⟨#[117, 112]⟩, .string ⟨#[102, 108, 111, 111, 114]⟩, .string ⟨#[99, 101, 105, 108]⟩, .string ⟨#[104, 97, 108, 102, 32, 117, 112]⟩, .string ⟨#[104, 97, 108, 102, 32, 101, 118, 101, 110]⟩]) (.int .i64 0)).run Tryd.prog w = .ok (.string ⟨#[110, 111, 110, 101]⟩) w := fun _ => by kernel_rfl
  have i1 : ∀ w, (Instr.index 90 (.agg #[.string ⟨#[110, 111, 110, 101]⟩, .string ⟨#[100, 111, 119, 110]⟩, .string ⟨#[117, 112]⟩, .string ⟨#[102, 108, 111, 111, 114]⟩, .string ⟨#[99, 101, 105, 108]⟩, .string ⟨#[104, 97, 108, 102, 32, 117, 112]⟩, .string ⟨#[104, 97, 108, 102, 32, 101, 118, 101, 110]⟩]) (.int .i64 1)).run Tryd.prog w = .ok (.string ⟨#[100, 111, 119, 110]⟩) w := fun _ => by kernel_rfl
  have i2 : ∀ w, (Instr.index 90 (.agg #[.string ⟨#[110, 111, 110, 101]⟩, .string ⟨#[100, 111, 119, 110]⟩, .string ⟨#[117, 112]⟩, .string ⟨#[102, 108, 111, 111, 114]⟩, .string ⟨#[99, 101, 105, 108]⟩, .string ⟨#[104, 97, 108, 102, 32, 117, 112]⟩, .string ⟨#[104, 97, 108, 102, 32, 101, 118, 101, 110]⟩]) (.int .i64 2)).run Tryd.prog w = .ok (.string ⟨#[117, 112]⟩) w := fun _ => by kernel_rfl
  have i3 : ∀ w, (Instr.index 90 (.agg #[.string ⟨#[110, 111, 110, 101]⟩, .string ⟨#[100, 111, 119, 110]⟩, .string ⟨#[117, 112]⟩, .string ⟨#[102, 108, 111, 111, 114]⟩, .string ⟨#[99, 101, 105, 108]⟩, .string ⟨#[104, 97, 108, 102, 32, 117, 112]⟩, .string ⟨#[104, 97, 108, 102, 32, 101, 118, 101, 110]⟩]) (.int .i64 3)).run Tryd.prog w = .ok (.string ⟨#[102, 108, 111, 111, 114]⟩) w := fun _ => by kernel_rfl
  have i4 : ∀ w, (Instr.index 90 (.agg #[.string ⟨#[110, 111, 110, 101]⟩, .string ⟨#[100, 111, 119, 110]⟩, .string ⟨#[117, 112]⟩, .string ⟨#[102, 108, 111, 111, 114]⟩, .string ⟨#[99, 101, 105, 108]⟩, .string ⟨#[104, 97, 108, 102, 32, 117, 112]⟩, .string ⟨#[104, 97, 108, 102, 32, 101, 118, 101, 110]⟩]) (.int .i64 4)).run Tryd.prog w = .ok (.string ⟨#[99, 101, 105, 108]⟩) w := fun _ => by kernel_rfl
  have i5 : ∀ w, (Instr.index 90 (.agg #[.string ⟨#[110, 111, 110, 101]⟩, .string ⟨#[100, 111, 119, 110]⟩, .string ⟨#[117, 112]⟩, .string ⟨#[102, 108, 111, 111, 114]⟩, .string ⟨#[99, 101, 105, 108]⟩, .string ⟨#[104, 97, 108, 102, 32, 117, 112]⟩, .string ⟨#[104, 97, 108, 102, 32, 101, 118, 101, 110]⟩]) (.int .i64 5)).run Tryd.prog w = .ok (.string ⟨#[104, 97, 108, 102, 32, 117, 112]⟩) w := fun _ => by kernel_rfl
  have i6 : ∀ w, (Instr.index 90 (.agg #[.string ⟨#[110, 111, 110, 101]⟩, .string ⟨#[100, 111, 119, 110]⟩, .string ⟨#[117, 112]⟩, .string ⟨#[102, 108, 111, 111, 114]⟩, .string ⟨#[99, 101, 105, 108]⟩, .string ⟨#[104, 97, 108, 102, 32, 117, 112]⟩, .string ⟨#[104, 97, 108, 102, 32, 101, 118, 101, 110]⟩]) (.int .i64 6)).run Tryd.prog w = .ok (.string ⟨#[104, 97, 108, 102, 32, 101, 118, 101, 110]⟩) w := fun _ => by kernel_rfl
  go_enter Tryd.func39, Tryd.ntmps39
  go_wp2_with fail
  refine wp_loop_rounds 7 ?_
  rw [rounds_succ]
  go_wp2_with fail
  rw [rounds_succ]
  go_wp2_with fail
  rw [rounds_succ]
  go_wp2_with fail
  rw [rounds_succ]
  go_wp2_with fail
  rw [rounds_succ]
  go_wp2_with fail
  rw [rounds_succ]
  go_wp2_with fail
  rw [rounds_succ]
  go_wp2_with fail
  go_ret2
  exact ⟨rfl, by (repeat' (first | with_reducible exact Below.refl _ _ | with_reducible assumption | with_reducible refine Below.drew ?_ | with_reducible refine below_drewN ?_ _ | with_reducible refine Below.setCell ?_ ?_ _ | with_reducible refine Below.alloc ?_ ?_ _ | omega | (simp; done) | (simp; omega)))⟩

/-- what the seven ways make of -5/2 -/
def wnI : Nat → Int
  | 0 => -5 | 1 => -2 | 2 => -3 | 3 => -3 | 4 => -2 | 5 => -3 | _ => -2
def wdI : Nat → Int
  | 0 => 2 | _ => 1
theorem want_at (k : Nat) (hk : k < 7) : (#[.int .i64 (-5), .int .i64 2, .int .i64 (-2), .int .i64 1, .int .i64 (-3), .int .i64 1, .int .i64 (-3), .int .i64 1, .int .i64 (-2), .int .i64 1, .int .i64 (-3), .int .i64 1, .int .i64 (-2), .int .i64 1] : Array Value)[k * 2]? = some (.int .i64 (wnI k)) ∧ (#[.int .i64 (-5), .int .i64 2, .int .i64 (-2), .int .i64 1, .int .i64 (-3), .int .i64 1, .int .i64 (-3), .int .i64 1, .int .i64 (-2), .int .i64 1, .int .i64 (-3), .int .i64 1, .int .i64 (-2), .int .i64 1] : Array Value)[k * 2 + 1]? = some (.int .i64 (wdI k)) := by
  have h : k = 0 ∨ k = 1 ∨ k = 2 ∨ k = 3 ∨ k = 4 ∨ k = 5 ∨ k = 6 := by omega
  rcases h with rfl | rfl | rfl | rfl | rfl | rfl | rfl <;> exact ⟨rfl, rfl⟩
theorem way0 : roundI (-5) 2 0 0 0 = .ok (Rat.divInt (-5) 2) := roundI_none (by decide +kernel) (by decide +kernel)
theorem way1 : roundI (-5) 2 1 1 1 = .ok (Rat.divInt (-2) 1) := by
  rw [roundI_some (by decide +kernel) (by decide +kernel) (by decide), show rkI 1 (decide ((-5 : Int) < 0)) (-5 * 1) (2 * 1) = -2 by decide +kernel]
  exact goodR_ok (by decide +kernel)
theorem way2 : roundI (-5) 2 2 1 1 = .ok (Rat.divInt (-3) 1) := by
  rw [roundI_some (by decide +kernel) (by decide +kernel) (by decide), show rkI 2 (decide ((-5 : Int) < 0)) (-5 * 1) (2 * 1) = -3 by decide +kernel]
  exact goodR_ok (by decide +kernel)
theorem way3 : roundI (-5) 2 3 1 1 = .ok (Rat.divInt (-3) 1) := by
  rw [roundI_some (by decide +kernel) (by decide +kernel) (by decide), show rkI 3 (decide ((-5 : Int) < 0)) (-5 * 1) (2 * 1) = -3 by decide +kernel]
  exact goodR_ok (by decide +kernel)
theorem way4 : roundI (-5) 2 4 1 1 = .ok (Rat.divInt (-2) 1) := by
  rw [roundI_some (by decide +kernel) (by decide +kernel) (by decide), show rkI 4 (decide ((-5 : Int) < 0)) (-5 * 1) (2 * 1) = -2 by decide +kernel]
  exact goodR_ok (by decide +kernel)
theorem way5 : roundI (-5) 2 5 1 1 = .ok (Rat.divInt (-3) 1) := by
  rw [roundI_some (by decide +kernel) (by decide +kernel) (by decide), show rkI 5 (decide ((-5 : Int) < 0)) (-5 * 1) (2 * 1) = -3 by decide +kernel]
  exact goodR_ok (by decide +kernel)
theorem way6 : roundI (-5) 2 6 1 1 = .ok (Rat.divInt (-2) 1) := by
  rw [roundI_some (by decide +kernel) (by decide +kernel) (by decide), show rkI 6 (decide ((-5 : Int) < 0)) (-5 * 1) (2 * 1) = -2 by decide +kernel]
  exact goodR_ok (by decide +kernel)
theorem wayK (k : Nat) (h1 : 1 ≤ k) (h7 : k < 7) : roundI (-5) 2 k 1 1 = .ok (Rat.divInt (wnI k) (wdI k)) ∧ (Rat.divInt (wnI k) (wdI k)).num = wnI k ∧ ((Rat.divInt (wnI k) (wdI k)).den : Int) = wdI k := by
  have h : k = 1 ∨ k = 2 ∨ k = 3 ∨ k = 4 ∨ k = 5 ∨ k = 6 := by omega
  rcases h with rfl | rfl | rfl | rfl | rfl | rfl
  · exact ⟨way1, by decide +kernel, by decide +kernel⟩
  · exact ⟨way2, by decide +kernel, by decide +kernel⟩
  · exact ⟨way3, by decide +kernel, by decide +kernel⟩
  · exact ⟨way4, by decide +kernel, by decide +kernel⟩
  · exact ⟨way5, by decide +kernel, by decide +kernel⟩
  · exact ⟨way6, by decide +kernel, by decide +kernel⟩
theorem way_range : roundI 1000000000000 1 2 7 1 = .error 1 := by
  rw [roundI_some (by decide +kernel) (by decide +kernel) (by decide)]
  exact goodR_no (by decide +kernel)
theorem way_frac : roundI 2 4 0 0 0 = .error 2 := roundI_frac (by decide +kernel)
theorem share_ok : shareOk (-7) [1, 0, 1] := by
  refine ⟨by decide, by decide, by decide, ?_, by decide +kernel⟩
  intro x hx
  simp only [List.mem_cons, List.not_mem_nil, or_false] at hx
  omega
theorem share_is : shareL (-7) [1, 0, 1] 3 = [-4, 0, -3] := by decide +kernel
theorem of_any (n d : Int) (w : World) : Calls Tryd.prog 38 #[.int .i64 n, .int .i64 d] w fun e w' => e = .returned (.agg #[.int .i64 n, .int .i64 d]) ∧ Below w.heap.size w w' := by
  go_enter Tryd.func38, Tryd.ntmps38
  go_wp2
  refine bodyPost_ret (v := .agg #[.int .i64 n, .int .i64 d]) (by simp [results, Tryd.results38, go_sem]) rfl ⟨rfl, by (repeat' (first | with_reducible exact Below.refl _ _ | with_reducible assumption | with_reducible refine Below.drew ?_ | with_reducible refine below_drewN ?_ _ | with_reducible refine Below.setCell ?_ ?_ _ | with_reducible refine Below.alloc ?_ ?_ _ | omega | (simp; done) | (simp; omega)))⟩
theorem row3 (w : World) (a b c : Int) (t : TypeId) (g : Nat) (h : Hid (w.heap[g]? = some (.cells #[.int .i64 a, .int .i64 b, .int .i64 c] t (0, 0)))) : RowAt encI 1 w w.heap.size (some ⟨g, 0, none⟩) [a, b, c] := by
  intro k x hx
  refine ⟨g, 0, rfl, lt_of_H h, fun j u hj => ?_⟩
  have hk : k < 3 := (List.getElem?_eq_some_iff.1 hx).1
  have hj0 : j = 0 := by have := (List.getElem?_eq_some_iff.1 hj).1; simp [encI] at this; omega
  subst hj0
  rw [Nat.zero_add, Nat.mul_one, Nat.add_zero, cellH h k]
  have h3 : k = 0 ∨ k = 1 ∨ k = 2 := by omega
  rcases h3 with rfl | rfl | rfl <;> (simp at hx; subst hx; simpa [encI] using hj)

set_option maxRecDepth 100000 in
set_option maxHeartbeats 16000000 in
theorem first2_any (E : Nat → Addr) (w : World) (hE : Env LS E w) (hW : Words w) :
    Calls Tryd.prog 12 #[] w fun e w' => e = .returned (.bool true) ∧ Below w.heap.size w w' := by
  have HE := Lib.hid hE
  have HW := Lib.hid hW
  clear hE hW
  go_enter Tryd.func12, Tryd.ntmps12
  go_wp2_with fail
  refine (of_any 1 1 _).mono ?_
  rintro e w1 ⟨rfl, hb1⟩
  have hw1 : Below w.heap.size w w1 := stepH (by (repeat' (first | with_reducible exact Below.refl _ _ | with_reducible assumption | with_reducible refine Below.drew ?_ | with_reducible refine below_drewN ?_ _ | with_reducible refine Below.setCell ?_ ?_ _ | with_reducible refine Below.alloc ?_ ?_ _ | omega | (simp; done) | (simp; omega)))) hb1
  have X := keepH hb1 (g := w.heap.size) (blk_new rfl)
  have z1 := hw1.size
  clear hb1
  have cX := cellH X
  obtain ⟨lX, lX1, lX2⟩ := ltH X
  go_upto_region 3 with fail
  have hw2 : Below w.heap.size w (w1.alloc (.cells #[.int .i64 1, .int .i64 1] 30)) := by (repeat' (first | with_reducible exact Below.refl _ _ | with_reducible assumption | with_reducible refine Below.drew ?_ | with_reducible refine below_drewN ?_ _ | with_reducible refine Below.setCell ?_ ?_ _ | with_reducible refine Below.alloc ?_ ?_ _ | omega | (simp; done) | (simp; omega)))
  replace X : Hid ((w1.alloc (.cells #[.int .i64 1, .int .i64 1] 30)).heap[w.heap.size]? = some (.cells #[.int .i64 (-5), .int .i64 2] 30 (0, 0))) := (blk_old X.out)
  have U : Hid ((w1.alloc (.cells #[.int .i64 1, .int .i64 1] 30)).heap[w1.heap.size]? = some (.cells #[.int .i64 1, .int .i64 1] 30 (0, 0))) := (blk_new rfl)
  clear cX lX lX1 lX2
  generalize (w1.alloc (.cells #[.int .i64 1, .int .i64 1] 30)) = w2 at *
  have z2 := hw2.size
  have cX := cellH X
  obtain ⟨lX, lX1, lX2⟩ := ltH X
  have cU := cellH U
  obtain ⟨lU, lU1, lU2⟩ := ltH U
  go_cut [3] (fun s3 wx => ∃ g : Nat, s3 = .slice (some ⟨g, 0, none⟩) 7 7 ∧ Below w.heap.size w wx ∧ Hid (wx.heap[w.heap.size]? = some (.cells #[.int .i64 (-5), .int .i64 2] 30 (0, 0))) ∧ Hid (wx.heap[w1.heap.size]? = some (.cells #[.int .i64 1, .int .i64 1] 30 (0, 0))) ∧ Hid (wx.heap[g]? = some (.cells #[.int .i64 (-5), .int .i64 2, .int .i64 (-2), .int .i64 1, .int .i64 (-3), .int .i64 1, .int .i64 (-3), .int .i64 1, .int .i64 (-2), .int .i64 1, .int .i64 (-3), .int .i64 1, .int .i64 (-2), .int .i64 1] 30 (0, 0))))
  case first =>
    go_region_held3 (fun w' => w'.cell? ⟨w.heap.size, 0, none⟩ = some (.int .i64 (-5)) ∧ w'.cell? ⟨w.heap.size, 1, none⟩ = some (.int .i64 2)) (first | exact ⟨cellH X 0, cellH X 1⟩ | go_keep)
      (first | (go_at_call 38; refine (of_any _ _ _).mono ?_; rintro e w3 ⟨rfl, hb3⟩; have hw3 : Below w.heap.size w w3 := stepH (by (repeat' (first | with_reducible exact Below.refl _ _ | with_reducible assumption | with_reducible refine Below.drew ?_ | with_reducible refine below_drewN ?_ _ | with_reducible refine Below.setCell ?_ ?_ _ | with_reducible refine Below.alloc ?_ ?_ _ | omega | (simp; done) | (simp; omega)))) hb3; replace X := keepH hb3 X.out; replace U := keepH hb3 U.out))
    clear cX lX lX1 lX2 cU lU lU1 lU2
    have z3 := hw3.size
    all_goals go_wp2_with fail
    all_goals go_meet
    all_goals exact ⟨_, rfl, (by (repeat' (first | with_reducible exact Below.refl _ _ | with_reducible assumption | with_reducible refine Below.drew ?_ | with_reducible refine below_drewN ?_ _ | with_reducible refine Below.setCell ?_ ?_ _ | with_reducible refine Below.alloc ?_ ?_ _ | omega | (simp; done) | (simp; omega)))), blk_old X.out, blk_old U.out, blk_new rfl⟩
  case rest =>
    as_aux_lemma =>
      clear cX lX lX1 lX2 cU lU lU1 lU2
      clear X U
      obtain ⟨g, rfl, hw20, X, U, Wn⟩ := hcut
      obtain ⟨w20, rfl⟩ : ∃ x : World, x = wc := ⟨_, rfl⟩
      have z20 := hw20.size
      have HEE := Lib.hid (HE.out.below hw20)
      go_wp2_with fail
      go_loopw [4] (fun m wr => ∃ k : Nat, k ≤ 7 ∧ m = .int .i64 k ∧ Below w.heap.size w wr ∧ Hid (wr.heap[w.heap.size]? = some (.cells #[.int .i64 (-5), .int .i64 2] 30 (0, 0))) ∧ Hid (wr.heap[w1.heap.size]? = some (.cells #[.int .i64 1, .int .i64 1] 30 (0, 0))) ∧ Hid (wr.heap[g]? = some (.cells #[.int .i64 (-5), .int .i64 2, .int .i64 (-2), .int .i64 1, .int .i64 (-3), .int .i64 1, .int .i64 (-3), .int .i64 1, .int .i64 (-2), .int .i64 1, .int .i64 (-3), .int .i64 1, .int .i64 (-2), .int .i64 1] 30 (0, 0)))) (fun m _ => 7 - (intOf m).toNat)
      case atStart => exact ⟨0, by omega, rfl, hw20, X, U, Wn⟩
      case round =>
        clear X U Wn
        obtain ⟨k, hk, rfl, hw30, X, U, Wn⟩ := hrel
        clear hw20 z20 HEE
        obtain ⟨w30, rfl⟩ : ∃ x : World, x = wr := ⟨_, rfl⟩
        have z30 := hw30.size
        have cX := cellH X
        obtain ⟨lX, lX1, lX2⟩ := ltH X
        have cU := cellH U
        obtain ⟨lU, lU1, lU2⟩ := ltH U
        have cWn := cellH Wn
        obtain ⟨lWn, lWn1, lWn2⟩ := ltH Wn
        by_cases hlt : k < 7
        · have WA := Lib.hid (want_at k hlt)
          by_cases h0 : k = 0
          · subst h0
            go_wp2_with fail
            refine (round_any (-5) 2 0 0 0 E _ ⟨⟨by omega, by omega⟩, ⟨by omega, by omega⟩, ⟨by omega, by omega⟩, ⟨by omega, by omega⟩, by omega, by omega⟩ ((HE.out.below (by (repeat' (first | with_reducible exact Below.refl _ _ | with_reducible assumption | with_reducible refine Below.drew ?_ | with_reducible refine below_drewN ?_ _ | with_reducible refine Below.setCell ?_ ?_ _ | with_reducible refine Below.alloc ?_ ?_ _ | omega | (simp; done) | (simp; omega))))).sub (by decide))).mono ?_
            rintro e w31 ⟨⟨n', d', err, rfl, hr⟩, hb31⟩
            have hw31 : Below w.heap.size w w31 := stepH (by (repeat' (first | with_reducible exact Below.refl _ _ | with_reducible assumption | with_reducible refine Below.drew ?_ | with_reducible refine below_drewN ?_ _ | with_reducible refine Below.setCell ?_ ?_ _ | with_reducible refine Below.alloc ?_ ?_ _ | omega | (simp; done) | (simp; omega)))) hb31
            obtain ⟨rfl, rfl, rfl⟩ := resF_ok (a := -5) (b := 2) hr way0 (by decide +kernel) (by decide +kernel)
            clear hr
            replace X := keepH hb31 (blk_old X.out)
            replace U := keepH hb31 (blk_old U.out)
            replace Wn := keepH hb31 (blk_old Wn.out)
            have G := keepH hb31 (g := w30.heap.size) (blk_new rfl)
            have z31 := hw31.size
            clear hb31 hw30 z30
            clear cX lX lX1 lX2 cU lU lU1 lU2 cWn lWn lWn1 lWn2
            have cX := cellH X
            obtain ⟨lX, lX1, lX2⟩ := ltH X
            have cU := cellH U
            obtain ⟨lU, lU1, lU2⟩ := ltH U
            have cWn := cellH Wn
            obtain ⟨lWn, lWn1, lWn2⟩ := ltH Wn
            have cG := cellH G
            obtain ⟨lG, lG1, lG2⟩ := ltH G
            go_upto_region 11 with fail
            have hw32 : Below w.heap.size w (w31.alloc (.cells #[.int .i64 (-5), .int .i64 (2)] 30)) := by (repeat' (first | with_reducible exact Below.refl _ _ | with_reducible assumption | with_reducible refine Below.drew ?_ | with_reducible refine below_drewN ?_ _ | with_reducible refine Below.setCell ?_ ?_ _ | with_reducible refine Below.alloc ?_ ?_ _ | omega | (simp; done) | (simp; omega)))
            replace X : Hid ((w31.alloc (.cells #[.int .i64 (-5), .int .i64 (2)] 30)).heap[w.heap.size]? = some (.cells #[.int .i64 (-5), .int .i64 2] 30 (0, 0))) := (blk_old X.out)
            replace U : Hid ((w31.alloc (.cells #[.int .i64 (-5), .int .i64 (2)] 30)).heap[w1.heap.size]? = some (.cells #[.int .i64 1, .int .i64 1] 30 (0, 0))) := (blk_old U.out)
            replace Wn : Hid ((w31.alloc (.cells #[.int .i64 (-5), .int .i64 (2)] 30)).heap[g]? = some (.cells #[.int .i64 (-5), .int .i64 2, .int .i64 (-2), .int .i64 1, .int .i64 (-3), .int .i64 1, .int .i64 (-3), .int .i64 1, .int .i64 (-2), .int .i64 1, .int .i64 (-3), .int .i64 1, .int .i64 (-2), .int .i64 1] 30 (0, 0))) := (blk_old Wn.out)
            replace G : Hid ((w31.alloc (.cells #[.int .i64 (-5), .int .i64 (2)] 30)).heap[w30.heap.size]? = some (.cells #[.int .i64 0, .int .i64 0, .int .i64 0] 32 (0, 0))) := (blk_old G.out)
            have Yb : Hid ((w31.alloc (.cells #[.int .i64 (-5), .int .i64 (2)] 30)).heap[w31.heap.size]? = some (.cells #[.int .i64 (-5), .int .i64 (2)] 30 (0, 0))) := (blk_new rfl)
            clear cX lX lX1 lX2 cU lU lU1 lU2 cWn lWn lWn1 lWn2 cG lG lG1 lG2
            generalize (w31.alloc (.cells #[.int .i64 (-5), .int .i64 (2)] 30)) = w32 at *
            have z32 := hw32.size
            have cX := cellH X
            obtain ⟨lX, lX1, lX2⟩ := ltH X
            have cU := cellH U
            obtain ⟨lU, lU1, lU2⟩ := ltH U
            have cWn := cellH Wn
            obtain ⟨lWn, lWn1, lWn2⟩ := ltH Wn
            have cG := cellH G
            obtain ⟨lG, lG1, lG2⟩ := ltH G
            have cYb := cellH Yb
            obtain ⟨lYb, lYb1, lYb2⟩ := ltH Yb
            have q0 : w32.cell? ⟨g, 0, none⟩ = some (.int .i64 (-5)) := (cellH Wn _).trans rfl
            have q1 : w32.cell? ⟨g, 1, none⟩ = some (.int .i64 (2)) := (cellH Wn _).trans rfl
            clear cX lX lX1 lX2 cU lU lU1 lU2 cWn lWn lWn1 lWn2 cG lG lG1 lG2 cYb lYb lYb1 lYb2
            go_region_held3 (fun w' => w'.cell? ⟨g, 0, none⟩ = some (.int .i64 (-5)) ∧ w'.cell? ⟨g, 1, none⟩ = some (.int .i64 (2)) ∧ w'.cell? ⟨w31.heap.size, 0, none⟩ = some (.int .i64 (-5)) ∧ w'.cell? ⟨w31.heap.size, 1, none⟩ = some (.int .i64 (2))) (first | exact ⟨q0, q1, cellH Yb 0, cellH Yb 1⟩ | go_keep)
              (first | (go_at_call 17; refine (first_same _ _ _).mono ?_; rintro e w33 ⟨rfl, hb33⟩; have hw33 : Below w.heap.size w w33 := stepH (by (repeat' (first | with_reducible exact Below.refl _ _ | with_reducible assumption | with_reducible refine Below.drew ?_ | with_reducible refine below_drewN ?_ _ | with_reducible refine Below.setCell ?_ ?_ _ | with_reducible refine Below.alloc ?_ ?_ _ | omega | (simp; done) | (simp; omega)))) hb33; replace X := keepH hb33 X.out; replace U := keepH hb33 U.out; replace Wn := keepH hb33 Wn.out; replace G := keepH hb33 G.out; replace Yb := keepH hb33 Yb.out; replace q0 : w33.cell? ⟨g, 0, none⟩ = some (.int .i64 (-5)) := (cellH Wn _).trans rfl; replace q1 : w33.cell? ⟨g, 1, none⟩ = some (.int .i64 (2)) := (cellH Wn _).trans rfl))
            all_goals go_wp2_with fail
            all_goals go_roundw
            all_goals first | exact ⟨1, by omega, by go_num, (by (repeat' (first | with_reducible exact Below.refl _ _ | with_reducible assumption | with_reducible refine Below.drew ?_ | with_reducible refine below_drewN ?_ _ | with_reducible refine Below.setCell ?_ ?_ _ | with_reducible refine Below.alloc ?_ ?_ _ | omega | (simp; done) | (simp; omega)))), X, U, Wn⟩ | (simp [intOf]; done) | (simp [intOf]; omega)
          · have h0' : ((k : Int) == 0) = false := by simp; omega
            have WK := Lib.hid (wayK k (by omega) hlt)
            clear h0
            go_wp2_with fail
            refine (round_any (-5) 2 (k : Int) 1 1 E _ ⟨⟨by omega, by omega⟩, ⟨by omega, by omega⟩, ⟨by omega, by omega⟩, ⟨by omega, by omega⟩, by omega, by omega⟩ ((HE.out.below (by (repeat' (first | with_reducible exact Below.refl _ _ | with_reducible assumption | with_reducible refine Below.drew ?_ | with_reducible refine below_drewN ?_ _ | with_reducible refine Below.setCell ?_ ?_ _ | with_reducible refine Below.alloc ?_ ?_ _ | omega | (simp; done) | (simp; omega))))).sub (by decide))).mono ?_
            rintro e w34 ⟨⟨n', d', err, rfl, hr⟩, hb34⟩
            have hw34 : Below w.heap.size w w34 := stepH (by (repeat' (first | with_reducible exact Below.refl _ _ | with_reducible assumption | with_reducible refine Below.drew ?_ | with_reducible refine below_drewN ?_ _ | with_reducible refine Below.setCell ?_ ?_ _ | with_reducible refine Below.alloc ?_ ?_ _ | omega | (simp; done) | (simp; omega)))) hb34
            obtain ⟨rfl, rfl, rfl⟩ := resF_ok (a := wnI k) (b := wdI k) hr WK.out.1 WK.out.2.1 WK.out.2.2
            clear hr
            replace X := keepH hb34 (blk_old X.out)
            replace U := keepH hb34 (blk_old U.out)
            replace Wn := keepH hb34 (blk_old Wn.out)
            have G := keepH hb34 (g := w30.heap.size) (blk_new rfl)
            have z34 := hw34.size
            clear hb34 hw30 z30
            clear cX lX lX1 lX2 cU lU lU1 lU2 cWn lWn lWn1 lWn2
            have cX := cellH X
            obtain ⟨lX, lX1, lX2⟩ := ltH X
            have cU := cellH U
            obtain ⟨lU, lU1, lU2⟩ := ltH U
            have cWn := cellH Wn
            obtain ⟨lWn, lWn1, lWn2⟩ := ltH Wn
            have cG := cellH G
            obtain ⟨lG, lG1, lG2⟩ := ltH G
            go_upto_region 11 with fail
            have hw35 : Below w.heap.size w (w34.alloc (.cells #[.int .i64 (wnI k), .int .i64 (wdI k)] 30)) := by (repeat' (first | with_reducible exact Below.refl _ _ | with_reducible assumption | with_reducible refine Below.drew ?_ | with_reducible refine below_drewN ?_ _ | with_reducible refine Below.setCell ?_ ?_ _ | with_reducible refine Below.alloc ?_ ?_ _ | omega | (simp; done) | (simp; omega)))
            replace X : Hid ((w34.alloc (.cells #[.int .i64 (wnI k), .int .i64 (wdI k)] 30)).heap[w.heap.size]? = some (.cells #[.int .i64 (-5), .int .i64 2] 30 (0, 0))) := (blk_old X.out)
            replace U : Hid ((w34.alloc (.cells #[.int .i64 (wnI k), .int .i64 (wdI k)] 30)).heap[w1.heap.size]? = some (.cells #[.int .i64 1, .int .i64 1] 30 (0, 0))) := (blk_old U.out)
            replace Wn : Hid ((w34.alloc (.cells #[.int .i64 (wnI k), .int .i64 (wdI k)] 30)).heap[g]? = some (.cells #[.int .i64 (-5), .int .i64 2, .int .i64 (-2), .int .i64 1, .int .i64 (-3), .int .i64 1, .int .i64 (-3), .int .i64 1, .int .i64 (-2), .int .i64 1, .int .i64 (-3), .int .i64 1, .int .i64 (-2), .int .i64 1] 30 (0, 0))) := (blk_old Wn.out)
            replace G : Hid ((w34.alloc (.cells #[.int .i64 (wnI k), .int .i64 (wdI k)] 30)).heap[w30.heap.size]? = some (.cells #[.int .i64 (k : Int), .int .i64 1, .int .i64 1] 32 (0, 0))) := (blk_old G.out)
            have Yb : Hid ((w34.alloc (.cells #[.int .i64 (wnI k), .int .i64 (wdI k)] 30)).heap[w34.heap.size]? = some (.cells #[.int .i64 (wnI k), .int .i64 (wdI k)] 30 (0, 0))) := (blk_new rfl)
            clear cX lX lX1 lX2 cU lU lU1 lU2 cWn lWn lWn1 lWn2 cG lG lG1 lG2
            generalize (w34.alloc (.cells #[.int .i64 (wnI k), .int .i64 (wdI k)] 30)) = w35 at *
            have z35 := hw35.size
            have cX := cellH X
            obtain ⟨lX, lX1, lX2⟩ := ltH X
            have cU := cellH U
            obtain ⟨lU, lU1, lU2⟩ := ltH U
            have cWn := cellH Wn
            obtain ⟨lWn, lWn1, lWn2⟩ := ltH Wn
            have cG := cellH G
            obtain ⟨lG, lG1, lG2⟩ := ltH G
            have cYb := cellH Yb
            obtain ⟨lYb, lYb1, lYb2⟩ := ltH Yb
            have q0 : w35.cell? ⟨g, k * 2, none⟩ = some (.int .i64 (wnI k)) := (cellH Wn _).trans WA.out.1
            have q1 : w35.cell? ⟨g, k * 2 + 1, none⟩ = some (.int .i64 (wdI k)) := (cellH Wn _).trans WA.out.2
            clear cX lX lX1 lX2 cU lU lU1 lU2 cWn lWn lWn1 lWn2 cG lG lG1 lG2 cYb lYb lYb1 lYb2
            go_region_held3 (fun w' => w'.cell? ⟨g, k * 2, none⟩ = some (.int .i64 (wnI k)) ∧ w'.cell? ⟨g, k * 2 + 1, none⟩ = some (.int .i64 (wdI k)) ∧ w'.cell? ⟨w34.heap.size, 0, none⟩ = some (.int .i64 (wnI k)) ∧ w'.cell? ⟨w34.heap.size, 1, none⟩ = some (.int .i64 (wdI k))) (first | exact ⟨q0, q1, cellH Yb 0, cellH Yb 1⟩ | go_keep)
              (first | (go_at_call 17; refine (first_same _ _ _).mono ?_; rintro e w36 ⟨rfl, hb36⟩; have hw36 : Below w.heap.size w w36 := stepH (by (repeat' (first | with_reducible exact Below.refl _ _ | with_reducible assumption | with_reducible refine Below.drew ?_ | with_reducible refine below_drewN ?_ _ | with_reducible refine Below.setCell ?_ ?_ _ | with_reducible refine Below.alloc ?_ ?_ _ | omega | (simp; done) | (simp; omega)))) hb36; replace X := keepH hb36 X.out; replace U := keepH hb36 U.out; replace Wn := keepH hb36 Wn.out; replace G := keepH hb36 G.out; replace Yb := keepH hb36 Yb.out; replace q0 : w36.cell? ⟨g, k * 2, none⟩ = some (.int .i64 (wnI k)) := (cellH Wn _).trans WA.out.1; replace q1 : w36.cell? ⟨g, k * 2 + 1, none⟩ = some (.int .i64 (wdI k)) := (cellH Wn _).trans WA.out.2))
            all_goals go_wp2_with fail
            all_goals go_roundw
            all_goals first | exact ⟨k + 1, by omega, by go_num, (by (repeat' (first | with_reducible exact Below.refl _ _ | with_reducible assumption | with_reducible refine Below.drew ?_ | with_reducible refine below_drewN ?_ _ | with_reducible refine Below.setCell ?_ ?_ _ | with_reducible refine Below.alloc ?_ ?_ _ | omega | (simp; done) | (simp; omega)))), X, U, Wn⟩ | (simp [intOf]; done) | (simp [intOf]; omega)
        · obtain rfl : k = 7 := by omega
          clear hlt hk
          go_wp2_with fail
          refine (of_any 1000000000000 1 _).mono ?_
          rintro e w41 ⟨rfl, hb41⟩
          have hw41 : Below w.heap.size w w41 := stepH (by (repeat' (first | with_reducible exact Below.refl _ _ | with_reducible assumption | with_reducible refine Below.drew ?_ | with_reducible refine below_drewN ?_ _ | with_reducible refine Below.setCell ?_ ?_ _ | with_reducible refine Below.alloc ?_ ?_ _ | omega | (simp; done) | (simp; omega)))) hb41
          replace X := keepH hb41 X.out
          replace U := keepH hb41 U.out
          replace Wn := keepH hb41 Wn.out
          have z41 := hw41.size
          clear hb41 hw30 z30
          clear cX lX lX1 lX2 cU lU lU1 lU2 cWn lWn lWn1 lWn2
          have cX := cellH X
          obtain ⟨lX, lX1, lX2⟩ := ltH X
          have cU := cellH U
          obtain ⟨lU, lU1, lU2⟩ := ltH U
          have cWn := cellH Wn
          obtain ⟨lWn, lWn1, lWn2⟩ := ltH Wn
          go_wp2_with fail
          refine (of_any 7 1 _).mono ?_
          rintro e w42 ⟨rfl, hb42⟩
          have hw42 : Below w.heap.size w w42 := stepH (by (repeat' (first | with_reducible exact Below.refl _ _ | with_reducible assumption | with_reducible refine Below.drew ?_ | with_reducible refine below_drewN ?_ _ | with_reducible refine Below.setCell ?_ ?_ _ | with_reducible refine Below.alloc ?_ ?_ _ | omega | (simp; done) | (simp; omega)))) hb42
          replace X := keepH hb42 X.out
          replace U := keepH hb42 U.out
          replace Wn := keepH hb42 Wn.out
          have z42 := hw42.size
          clear hb42 hw41 z41
          clear cX lX lX1 lX2 cU lU lU1 lU2 cWn lWn lWn1 lWn2
          have cX := cellH X
          obtain ⟨lX, lX1, lX2⟩ := ltH X
          have cU := cellH U
          obtain ⟨lU, lU1, lU2⟩ := ltH U
          have cWn := cellH Wn
          obtain ⟨lWn, lWn1, lWn2⟩ := ltH Wn
          go_wp2_with fail
          refine (round_any 1000000000000 1 2 7 1 E _ ⟨⟨by omega, by omega⟩, ⟨by omega, by omega⟩, ⟨by omega, by omega⟩, ⟨by omega, by omega⟩, by omega, by omega⟩ ((HE.out.below (by (repeat' (first | with_reducible exact Below.refl _ _ | with_reducible assumption | with_reducible refine Below.drew ?_ | with_reducible refine below_drewN ?_ _ | with_reducible refine Below.setCell ?_ ?_ _ | with_reducible refine Below.alloc ?_ ?_ _ | omega | (simp; done) | (simp; omega))))).sub (by decide))).mono ?_
          rintro e w43 ⟨⟨n', d', err, rfl, hr⟩, hb43⟩
          have hw43 : Below w.heap.size w w43 := stepH (by (repeat' (first | with_reducible exact Below.refl _ _ | with_reducible assumption | with_reducible refine Below.drew ?_ | with_reducible refine below_drewN ?_ _ | with_reducible refine Below.setCell ?_ ?_ _ | with_reducible refine Below.alloc ?_ ?_ _ | omega | (simp; done) | (simp; omega)))) hb43
          obtain ⟨rfl, rfl, rfl⟩ := resF_err hr way_range
          clear hr
          replace X := keepH hb43 X.out
          replace U := keepH hb43 U.out
          replace Wn := keepH hb43 Wn.out
          have z43 := hw43.size
          clear hb43 hw42 z42
          clear cX lX lX1 lX2 cU lU lU1 lU2 cWn lWn lWn1 lWn2
          have cX := cellH X
          obtain ⟨lX, lX1, lX2⟩ := ltH X
          have cU := cellH U
          obtain ⟨lU, lU1, lU2⟩ := ltH U
          have cWn := cellH Wn
          obtain ⟨lWn, lWn1, lWn2⟩ := ltH Wn
          go_wp2_with fail
          refine (round_any 2 4 0 0 0 E _ ⟨⟨by omega, by omega⟩, ⟨by omega, by omega⟩, ⟨by omega, by omega⟩, ⟨by omega, by omega⟩, by omega, by omega⟩ ((HE.out.below (by (repeat' (first | with_reducible exact Below.refl _ _ | with_reducible assumption | with_reducible refine Below.drew ?_ | with_reducible refine below_drewN ?_ _ | with_reducible refine Below.setCell ?_ ?_ _ | with_reducible refine Below.alloc ?_ ?_ _ | omega | (simp; done) | (simp; omega))))).sub (by decide))).mono ?_
          rintro e w44 ⟨⟨n', d', err, rfl, hr⟩, hb44⟩
          have hw44 : Below w.heap.size w w44 := stepH (by (repeat' (first | with_reducible exact Below.refl _ _ | with_reducible assumption | with_reducible refine Below.drew ?_ | with_reducible refine below_drewN ?_ _ | with_reducible refine Below.setCell ?_ ?_ _ | with_reducible refine Below.alloc ?_ ?_ _ | omega | (simp; done) | (simp; omega)))) hb44
          obtain ⟨rfl, rfl, rfl⟩ := resF_err hr way_frac
          clear hr
          replace X := keepH hb44 (blk_old X.out)
          replace U := keepH hb44 (blk_old U.out)
          replace Wn := keepH hb44 (blk_old Wn.out)
          have Y2 := keepH hb44 (g := w43.heap.size) (blk_new rfl)
          have z44 := hw44.size
          clear hb44 hw43 z43
          clear cX lX lX1 lX2 cU lU lU1 lU2 cWn lWn lWn1 lWn2
          have cX := cellH X
          obtain ⟨lX, lX1, lX2⟩ := ltH X
          have cU := cellH U
          obtain ⟨lU, lU1, lU2⟩ := ltH U
          have cWn := cellH Wn
          obtain ⟨lWn, lWn1, lWn2⟩ := ltH Wn
          have cY2 := cellH Y2
          obtain ⟨lY2, lY21, lY22⟩ := ltH Y2
          go_wp2_with fail
          have hw45 : Below w.heap.size w ((w44.alloc (.cells #[.int .i64 0, .int .i64 0] 30)).alloc (.cells #[.int .i64 1, .int .i64 0, .int .i64 1] 3)) := by (repeat' (first | with_reducible exact Below.refl _ _ | with_reducible assumption | with_reducible refine Below.drew ?_ | with_reducible refine below_drewN ?_ _ | with_reducible refine Below.setCell ?_ ?_ _ | with_reducible refine Below.alloc ?_ ?_ _ | omega | (simp; done) | (simp; omega)))
          replace X : Hid (((w44.alloc (.cells #[.int .i64 0, .int .i64 0] 30)).alloc (.cells #[.int .i64 1, .int .i64 0, .int .i64 1] 3)).heap[w.heap.size]? = some (.cells #[.int .i64 (-5), .int .i64 2] 30 (0, 0))) := (blk_old (blk_old X.out))
          replace U : Hid (((w44.alloc (.cells #[.int .i64 0, .int .i64 0] 30)).alloc (.cells #[.int .i64 1, .int .i64 0, .int .i64 1] 3)).heap[w1.heap.size]? = some (.cells #[.int .i64 1, .int .i64 1] 30 (0, 0))) := (blk_old (blk_old U.out))
          replace Wn : Hid (((w44.alloc (.cells #[.int .i64 0, .int .i64 0] 30)).alloc (.cells #[.int .i64 1, .int .i64 0, .int .i64 1] 3)).heap[g]? = some (.cells #[.int .i64 (-5), .int .i64 2, .int .i64 (-2), .int .i64 1, .int .i64 (-3), .int .i64 1, .int .i64 (-3), .int .i64 1, .int .i64 (-2), .int .i64 1, .int .i64 (-3), .int .i64 1, .int .i64 (-2), .int .i64 1] 30 (0, 0))) := (blk_old (blk_old Wn.out))
          replace Y2 : Hid (((w44.alloc (.cells #[.int .i64 0, .int .i64 0] 30)).alloc (.cells #[.int .i64 1, .int .i64 0, .int .i64 1] 3)).heap[w43.heap.size]? = some (.cells #[.int .i64 0, .int .i64 0] 30 (0, 0))) := (blk_old (blk_old Y2.out))
          have Y3 : Hid (((w44.alloc (.cells #[.int .i64 0, .int .i64 0] 30)).alloc (.cells #[.int .i64 1, .int .i64 0, .int .i64 1] 3)).heap[w44.heap.size]? = some (.cells #[.int .i64 0, .int .i64 0] 30 (0, 0))) := (blk_old (blk_new rfl))
          have Ws : Hid (((w44.alloc (.cells #[.int .i64 0, .int .i64 0] 30)).alloc (.cells #[.int .i64 1, .int .i64 0, .int .i64 1] 3)).heap[w44.heap.size + 1]? = some (.cells #[.int .i64 1, .int .i64 0, .int .i64 1] 3 (0, 0))) := (blk_new (by simp))
          clear cX lX lX1 lX2 cU lU lU1 lU2 cWn lWn lWn1 lWn2 cY2 lY2 lY21 lY22
          generalize ((w44.alloc (.cells #[.int .i64 0, .int .i64 0] 30)).alloc (.cells #[.int .i64 1, .int .i64 0, .int .i64 1] 3)) = w45 at *
          have z45 := hw45.size
          have cX := cellH X
          obtain ⟨lX, lX1, lX2⟩ := ltH X
          have cU := cellH U
          obtain ⟨lU, lU1, lU2⟩ := ltH U
          have cWn := cellH Wn
          obtain ⟨lWn, lWn1, lWn2⟩ := ltH Wn
          have cY2 := cellH Y2
          obtain ⟨lY2, lY21, lY22⟩ := ltH Y2
          have cY3 := cellH Y3
          obtain ⟨lY3, lY31, lY32⟩ := ltH Y3
          have cWs := cellH Ws
          obtain ⟨lWs, lWs1, lWs2⟩ := ltH Ws
          clear cX lX lX1 lX2 cU lU lU1 lU2 cWn lWn lWn1 lWn2 cY2 lY2 lY21 lY22 cY3 lY3 lY31 lY32 cWs lWs lWs1 lWs2
          refine (share_any (-7) [1, 0, 1] (some ⟨w44.heap.size + 1, 0, none⟩) 3 E _ (row3 _ 1 0 1 _ _ Ws) (HE.out.below (by (repeat' (first | with_reducible exact Below.refl _ _ | with_reducible assumption | with_reducible refine Below.drew ?_ | with_reducible refine below_drewN ?_ _ | with_reducible refine Below.setCell ?_ ?_ _ | with_reducible refine Below.alloc ?_ ?_ _ | omega | (simp; done) | (simp; omega)))))).mono ?_
          rintro e w46 ⟨v, err, rfl, hs, hb46⟩
          have hw46 : Below w.heap.size w w46 := stepH (by (repeat' (first | with_reducible exact Below.refl _ _ | with_reducible assumption | with_reducible refine Below.drew ?_ | with_reducible refine below_drewN ?_ _ | with_reducible refine Below.setCell ?_ ?_ _ | with_reducible refine Below.alloc ?_ ?_ _ | omega | (simp; done) | (simp; omega)))) hb46
          replace X := keepH hb46 X.out
          replace U := keepH hb46 U.out
          replace Wn := keepH hb46 Wn.out
          replace Y2 := keepH hb46 Y2.out
          replace Y3 := keepH hb46 Y3.out
          replace Ws := keepH hb46 Ws.out
          have z46 := hw46.size
          clear hb46 hw45 z45
          rcases hs with ⟨hno, _⟩ | ⟨_, rfl, hown⟩
          · exact absurd share_ok hno
          rw [show shareL (-7) [1, 0, 1] [(1 : Int), 0, 1].length = [-4, 0, -3] from share_is] at hown
          obtain ⟨A2, c2, hv, _, _, hr2⟩ := Own.rows (enc := encI) (size := 1) (fun _ _ => rfl) hown
          subst hv
          have HR := Lib.hid hr2
          clear hr2 hown
          go_wp2_with fail
          refine (mode_even _ (HW.out.below (by (repeat' (first | with_reducible exact Below.refl _ _ | with_reducible assumption | with_reducible refine Below.drew ?_ | with_reducible refine below_drewN ?_ _ | with_reducible refine Below.setCell ?_ ?_ _ | with_reducible refine Below.alloc ?_ ?_ _ | omega | (simp; done) | (simp; omega)))))).mono ?_
          rintro e w47 ⟨rfl, hb47⟩
          have hw47 : Below w.heap.size w w47 := stepH (by (repeat' (first | with_reducible exact Below.refl _ _ | with_reducible assumption | with_reducible refine Below.drew ?_ | with_reducible refine below_drewN ?_ _ | with_reducible refine Below.setCell ?_ ?_ _ | with_reducible refine Below.alloc ?_ ?_ _ | omega | (simp; done) | (simp; omega)))) hb47
          have HR2 := Lib.hid ((HR.out.below hb47 (Nat.le_refl _)).more hb47.size)
          replace X := keepH hb47 X.out
          replace U := keepH hb47 U.out
          replace Wn := keepH hb47 Wn.out
          replace Y2 := keepH hb47 Y2.out
          replace Y3 := keepH hb47 Y3.out
          replace Ws := keepH hb47 Ws.out
          have z47 := hw47.size
          clear hb47 hw46 z46
          have e1 := fun w => eql_err (E 1) w
          have e2 := fun w => eql_err (E 2) w
          have g1 := (HE.out.below hw47).cell 1 (by decide)
          have g2 := (HE.out.below hw47).cell 2 (by decide)
          go_wp2_with fail
          refine (sameInts_yes [-4, 0, -3] 3 _ _ _ _ _ rfl (by omega) ((HR2.out.below (Below.alloc (Below.refl _ _) (Nat.le_refl _) _) (Nat.le_refl _)).more (by simp)) (row3 _ (-4) 0 (-3) _ _ (blk_new rfl))).mono ?_
          rintro e w48 ⟨rfl, hb48⟩
          have hw48 : Below w.heap.size w w48 := stepH (by (repeat' (first | with_reducible exact Below.refl _ _ | with_reducible assumption | with_reducible refine Below.drew ?_ | with_reducible refine below_drewN ?_ _ | with_reducible refine Below.setCell ?_ ?_ _ | with_reducible refine Below.alloc ?_ ?_ _ | omega | (simp; done) | (simp; omega)))) hb48
          have z48 := hw48.size
          clear hb48 hw47 z47
          go_wp2_with fail
          go_ret
          exact ⟨rfl, hw48⟩

end Go.Proofs.YtcbglkkmblmbnaaDoor
