/- The document's own scales: ask, above, part, At: walks. -/
import Derived.Test.YtmankldedhgdiaaDoorRef15
import Derived.Deep.DeepCutAuto
namespace Go.Proofs.YtmankldedhgdiaaDoor
open Go.RowKit

/-- a number, or a code that is not 0 -/
def ResD (r : Except Nat Rat) (n d c : Int) : Prop :=
  match r with
  | .ok q => n = q.num ∧ d = q.den ∧ c = 0
  | .error _ => n = 0 ∧ d = 0 ∧ c ≠ 0

theorem resD_ok {r : Except Nat Rat} {q : Rat} (h : r = .ok q) : ResD r q.num q.den 0 := by subst h; exact ⟨rfl, rfl, rfl⟩
theorem resD_no {r : Except Nat Rat} {g : Nat} {c : Int} (h : r = .error g) (hc : c ≠ 0) : ResD r 0 0 c := by subst h; exact ⟨rfl, rfl, hc⟩
theorem resD_of {r : Except Nat Rat} {n d c : Int} (h : ResC r n d c) : ResD r n d c := by
  cases r with
  | ok q => exact h
  | error g => exact ⟨h.1, h.2.1, by rcases h.2.2 with h | h | h <;> omega⟩

theorem codeE_ne {g : Nat} : codeE (some g) ≠ 0 := by
  show (if _ then _ else _) ≠ _
  split
  · decide
  · split <;> decide

theorem refAsk15_any (s : List BI) (A : Option Addr) (c : Nat) (n d : Int) (w : World) (hl : RowAt encR 4 w w.heap.size A s) (hm : s.length ≤ 9223372036854775807) (hI : ∀ b ∈ s, In4 b) (Bn : -9223372036854775808 ≤ n ∧ n ≤ 9223372036854775807) (Bd : -9223372036854775808 ≤ d ∧ d ≤ 9223372036854775807) :
    Calls Tryd.prog 34 #[.slice A s.length c, .agg #[.int .i64 n, .int .i64 d]] w fun e w' => e = .returned (.int .i64 (codeE (askE s n d))) ∧ Below w.heap.size w w' := by
  obtain ⟨n1, n2⟩ := Bn
  obtain ⟨d1, d2⟩ := Bd
  have HV := Lib.hid (fun w' (h : Below w.heap.size w w') => refValid15_any s A c w' ((hl.below h (Nat.le_refl _)).more h.size) hm hI)
  clear hl hI
  cases hs : scaleE s
  · have HS := Lib.hid hs
    clear hs
    cases hv : validB n d
    · have HVV := Lib.hid hv
      clear hv
      go_enter Tryd.func34, Tryd.ntmps34
      go_wp2_with fail
      refine (HV.out _ (by (repeat' (first | with_reducible exact Below.refl _ _ | with_reducible assumption | with_reducible refine Below.drew ?_ | with_reducible refine below_drewN ?_ _ | with_reducible refine Below.setCell ?_ ?_ _ | with_reducible refine Below.alloc ?_ ?_ _ | omega | (simp; done) | (simp; omega))))).mono ?_
      rintro e w1 ⟨rfl, hb1⟩
      have hw1 : Below w.heap.size w w1 := stepH (by (repeat' (first | with_reducible exact Below.refl _ _ | with_reducible assumption | with_reducible refine Below.drew ?_ | with_reducible refine below_drewN ?_ _ | with_reducible refine Below.setCell ?_ ?_ _ | with_reducible refine Below.alloc ?_ ?_ _ | omega | (simp; done) | (simp; omega)))) hb1
      rw [HS.out]
      unfold codeE
      have X := keepH hb1 (g := w.heap.size) (blk_new rfl)
      have z1 := hw1.size
      clear hb1
      have cX := cellH X
      obtain ⟨lX, lX1, lX2⟩ := ltH X
      go_wp2_with fail
      refine (refv_is n d false _ HVV.out (by omega) (by omega) (by omega) (by omega)).mono ?_
      rintro e w2 ⟨rfl, hb2⟩
      have hw2 : Below w.heap.size w w2 := stepH (by (repeat' (first | with_reducible exact Below.refl _ _ | with_reducible assumption | with_reducible refine Below.drew ?_ | with_reducible refine below_drewN ?_ _ | with_reducible refine Below.setCell ?_ ?_ _ | with_reducible refine Below.alloc ?_ ?_ _ | omega | (simp; done) | (simp; omega)))) hb2
      replace X := keepH hb2 X.out
      have z2 := hw2.size
      clear hb2 hw1 z1
      clear cX lX lX1 lX2
      have cX := cellH X
      obtain ⟨lX, lX1, lX2⟩ := ltH X
      go_wp2_with fail
      go_ret
      exact ⟨codeE_is (by rw [askE_frac HS.out HVV.out]; rfl), by (repeat' (first | with_reducible exact Below.refl _ _ | with_reducible assumption | with_reducible refine Below.drew ?_ | with_reducible refine below_drewN ?_ _ | with_reducible refine Below.setCell ?_ ?_ _ | with_reducible refine Below.alloc ?_ ?_ _ | omega | (simp; done) | (simp; omega)))⟩
    · have HVV := Lib.hid hv
      clear hv
      go_enter Tryd.func34, Tryd.ntmps34
      go_wp2_with fail
      refine (HV.out _ (by (repeat' (first | with_reducible exact Below.refl _ _ | with_reducible assumption | with_reducible refine Below.drew ?_ | with_reducible refine below_drewN ?_ _ | with_reducible refine Below.setCell ?_ ?_ _ | with_reducible refine Below.alloc ?_ ?_ _ | omega | (simp; done) | (simp; omega))))).mono ?_
      rintro e w3 ⟨rfl, hb3⟩
      have hw3 : Below w.heap.size w w3 := stepH (by (repeat' (first | with_reducible exact Below.refl _ _ | with_reducible assumption | with_reducible refine Below.drew ?_ | with_reducible refine below_drewN ?_ _ | with_reducible refine Below.setCell ?_ ?_ _ | with_reducible refine Below.alloc ?_ ?_ _ | omega | (simp; done) | (simp; omega)))) hb3
      rw [HS.out]
      unfold codeE
      have X := keepH hb3 (g := w.heap.size) (blk_new rfl)
      have z3 := hw3.size
      clear hb3
      have cX := cellH X
      obtain ⟨lX, lX1, lX2⟩ := ltH X
      go_wp2_with fail
      refine (refv_is n d true _ HVV.out (by omega) (by omega) (by omega) (by omega)).mono ?_
      rintro e w4 ⟨rfl, hb4⟩
      have hw4 : Below w.heap.size w w4 := stepH (by (repeat' (first | with_reducible exact Below.refl _ _ | with_reducible assumption | with_reducible refine Below.drew ?_ | with_reducible refine below_drewN ?_ _ | with_reducible refine Below.setCell ?_ ?_ _ | with_reducible refine Below.alloc ?_ ?_ _ | omega | (simp; done) | (simp; omega)))) hb4
      replace X := keepH hb4 X.out
      have z4 := hw4.size
      clear hb4 hw3 z3
      clear cX lX lX1 lX2
      have cX := cellH X
      obtain ⟨lX, lX1, lX2⟩ := ltH X
      go_wp2_with fail
      go_ret
      exact ⟨codeE_is (by rw [askE_ok HS.out HVV.out]; rfl), by (repeat' (first | with_reducible exact Below.refl _ _ | with_reducible assumption | with_reducible refine Below.drew ?_ | with_reducible refine below_drewN ?_ _ | with_reducible refine Below.setCell ?_ ?_ _ | with_reducible refine Below.alloc ?_ ?_ _ | omega | (simp; done) | (simp; omega)))⟩
  · rename_i g
    have HS := Lib.hid hs
    clear hs
    obtain ⟨cd, hcd⟩ : ∃ cd, codeE (some g) = cd := ⟨_, rfl⟩
    have hne : (cd == 0) = false := by rw [← hcd]; exact beq_false_of_ne codeE_ne
    have HCD := Lib.hid hcd
    clear hcd
    go_enter Tryd.func34, Tryd.ntmps34
    go_wp2_with fail
    refine (HV.out _ (by (repeat' (first | with_reducible exact Below.refl _ _ | with_reducible assumption | with_reducible refine Below.drew ?_ | with_reducible refine below_drewN ?_ _ | with_reducible refine Below.setCell ?_ ?_ _ | with_reducible refine Below.alloc ?_ ?_ _ | omega | (simp; done) | (simp; omega))))).mono ?_
    rintro e w5 ⟨rfl, hb5⟩
    have hw5 : Below w.heap.size w w5 := stepH (by (repeat' (first | with_reducible exact Below.refl _ _ | with_reducible assumption | with_reducible refine Below.drew ?_ | with_reducible refine below_drewN ?_ _ | with_reducible refine Below.setCell ?_ ?_ _ | with_reducible refine Below.alloc ?_ ?_ _ | omega | (simp; done) | (simp; omega)))) hb5
    rw [HS.out, HCD.out]
    have X := keepH hb5 (g := w.heap.size) (blk_new rfl)
    have z5 := hw5.size
    clear hb5
    have cX := cellH X
    obtain ⟨lX, lX1, lX2⟩ := ltH X
    go_wp2_with fail
    go_ret
    exact ⟨codeE_is (by rw [askE_some HS.out]; exact HCD.out), by (repeat' (first | with_reducible exact Below.refl _ _ | with_reducible assumption | with_reducible refine Below.drew ?_ | with_reducible refine below_drewN ?_ _ | with_reducible refine Below.setCell ?_ ?_ _ | with_reducible refine Below.alloc ?_ ?_ _ | omega | (simp; done) | (simp; omega)))⟩

theorem refAbove_is (gs : List (Rat × Rat)) (A : Option Addr) (c k : Nat) (b : Rat × Rat) (x : Rat) (r : Bool) (w : World) (hl : RowAt encR 4 w w.heap.size A (gs.map bR)) (hb : gs[k]? = some b) (_hm : gs.length ≤ 32) (gb : Good b.1) (gx : Good x) (hr : decide (b.1 < x) = r) :
    Calls Tryd.prog 35 #[.slice A gs.length c, .int .i64 k, .agg #[.int .i64 x.num, .int .i64 x.den]] w fun e w' => e = .returned (.bool r) ∧ Below w.heap.size w w' := by
  have hk : k < gs.length := (List.getElem?_eq_some_iff.1 hb).1
  have HBI := Lib.hid (show (gs.map bR)[k]? = some (bR b) by rw [List.getElem?_map, hb]; rfl)
  have HL := Lib.hid hl
  have GB := Lib.hid gb
  have GX := Lib.hid gx
  have i1 : (k : Int) < (gs.length : Int) := by omega
  obtain ⟨cc, hcc⟩ : ∃ cc, cmpQ x b.1 = cc := ⟨_, rfl⟩
  have HC := Lib.hid hcc
  have hgt : decide (0 < cc) = r := by
    rw [← hr, ← hcc]
    by_cases h : b.1 < x
    · rw [cmp_gt h, decide_eq_true h]; rfl
    · have h2 : cmpQ x b.1 ≤ 0 := by unfold cmpQ; split; omega; first | omega | (rw [if_neg h]; omega)
      rw [decide_eq_false h]; exact decide_eq_false (by omega)
  clear hl hb gb gx hcc hr
  go_enter Tryd.func35, Tryd.ntmps35
  go_wp2_with fail
  have hw1 : Below w.heap.size w (w.alloc (.cells #[.int .i64 x.num, .int .i64 x.den] 24)) := by (repeat' (first | with_reducible exact Below.refl _ _ | with_reducible assumption | with_reducible refine Below.drew ?_ | with_reducible refine below_drewN ?_ _ | with_reducible refine Below.setCell ?_ ?_ _ | with_reducible refine Below.alloc ?_ ?_ _ | omega | (simp; done) | (simp; omega)))
  have X : Hid ((w.alloc (.cells #[.int .i64 x.num, .int .i64 x.den] 24)).heap[w.heap.size]? = some (.cells #[.int .i64 x.num, .int .i64 x.den] 24 (0, 0))) := (blk_new rfl)
  generalize (w.alloc (.cells #[.int .i64 x.num, .int .i64 x.den] 24)) = w1 at *
  have z1 := hw1.size
  have cX := cellH X
  obtain ⟨lX, lX1, lX2⟩ := ltH X
  clear cX lX lX1 lX2
  obtain ⟨g, off, hA, hgB, k0, k1, _, _⟩ := cells4 (HL.out.below hw1 (Nat.le_refl _)) HBI.out
  subst hA
  replace k0 : w1.cell? ⟨g, off + k * 4, none⟩ = some (.int .i64 b.1.num) := k0
  replace k1 : w1.cell? ⟨g, off + k * 4 + 1, none⟩ = some (.int .i64 b.1.den) := k1
  have x0 : w1.cell? ⟨w.heap.size, 0, none⟩ = some (.int .i64 x.num) := cellH X 0
  have x1 : w1.cell? ⟨w.heap.size, 1, none⟩ = some (.int .i64 x.den) := cellH X 1
  go_region_held3 (fun w' => w'.cell? ⟨g, off + k * 4, none⟩ = some (.int .i64 b.1.num) ∧ w'.cell? ⟨g, off + k * 4 + 1, none⟩ = some (.int .i64 b.1.den) ∧ w'.cell? ⟨w.heap.size, 0, none⟩ = some (.int .i64 x.num) ∧ w'.cell? ⟨w.heap.size, 1, none⟩ = some (.int .i64 x.den)) (first | with_reducible exact ⟨k0, k1, x0, x1⟩ | go_keep)
    (first | (go_at_call 25; refine (refCmp_is x b.1 cc _ GX.out GB.out HC.out).mono ?_; rintro e w90 ⟨rfl, hb90⟩; have hw90 : Below w.heap.size w w90 := stepH (by (repeat' (first | with_reducible exact Below.refl _ _ | with_reducible assumption | with_reducible refine Below.drew ?_ | with_reducible refine below_drewN ?_ _ | with_reducible refine Below.setCell ?_ ?_ _ | with_reducible refine Below.alloc ?_ ?_ _ | omega | (simp; done) | (simp; omega)))) hb90; replace k0 := cellOf hb90 (by first | exact k0 | exact cell_drew k0); replace k1 := cellOf hb90 (by first | exact k1 | exact cell_drew k1); replace x0 := cellOf hb90 (by first | exact x0 | exact cell_drew x0); replace x1 := cellOf hb90 (by first | exact x1 | exact cell_drew x1)))
  all_goals go_wp2_with fail
  all_goals go_ret
  all_goals exact ⟨rfl, by (repeat' (first | with_reducible exact Below.refl _ _ | with_reducible assumption | with_reducible refine Below.drew ?_ | with_reducible refine below_drewN ?_ _ | with_reducible refine Below.setCell ?_ ?_ _ | with_reducible refine Below.alloc ?_ ?_ _ | omega | (simp; done) | (simp; omega)))⟩

theorem cells4r {w : World} {B g off : Nat} {s : List BI} {k : Nat} {b : Rat × Rat} (h : RowAt encR 4 w B (some ⟨g, off, none⟩) s) (hk : s[k]? = some (bR b)) : w.cell? ⟨g, off + k * 4 + 2, none⟩ = some (.int .i64 b.2.num) := by
  obtain ⟨g', off', hA, _, _, _, k2, _⟩ := cells4 h hk
  injection hA with hA
  injection hA with e1 e2
  subst e1 e2
  exact k2
theorem cells4s {w : World} {B g off : Nat} {s : List BI} {k : Nat} {b : Rat × Rat} (h : RowAt encR 4 w B (some ⟨g, off, none⟩) s) (hk : s[k]? = some (bR b)) : w.cell? ⟨g, off + k * 4 + 3, none⟩ = some (.int .i64 b.2.den) := by
  obtain ⟨g', off', hA, _, _, _, _, k3⟩ := cells4 h hk
  injection hA with hA
  injection hA with e1 e2
  subst e1 e2
  exact k3

/-- what one bracket bears, as the reference reckons it -/
def partR (b : Rat × Rat) (t : Rat) : Except Nat Rat := if Good (t - b.1) then goodR (b.2 * (t - b.1)) else .error 5

theorem partR_ok {b : Rat × Rat} {t : Rat} {p : GQ} (h : partO b t = some p) : partR b t = .ok p.1 := by
  unfold partO at h
  unfold partR
  split at h
  · rename_i h1
    rw [if_pos h1]
    unfold toO at h
    split at h
    · rename_i h2; cases h; unfold goodR; rw [if_pos h2]
    · cases h
  · cases h
theorem partR_no {b : Rat × Rat} {t : Rat} (h : partO b t = none) : partR b t = .error 5 := by
  unfold partO at h
  unfold partR
  split at h
  · rename_i h1
    rw [if_pos h1]
    unfold toO at h
    split at h
    · cases h
    · rename_i h2; unfold goodR; rw [if_neg h2]
  · rename_i h1; rw [if_neg h1]

set_option maxRecDepth 10000 in
set_option maxHeartbeats 8000000 in
theorem refPart_any (gs : List (Rat × Rat)) (A : Option Addr) (c k : Nat) (b : Rat × Rat) (x : Rat) (w : World) (hl : RowAt encR 4 w w.heap.size A (gs.map bR)) (hb : gs[k]? = some b) (hm : gs.length ≤ 32) (hg : ∀ b ∈ gs, GoodB b) (gx : Good x) :
    Calls Tryd.prog 36 #[.slice A gs.length c, .int .i64 k, .agg #[.int .i64 x.num, .int .i64 x.den]] w fun e w' =>
      (∃ n d cd, e = .returned (.tuple #[.agg #[.int .i64 n, .int .i64 d], .int .i64 cd]) ∧ ResC (partR b (topQ x (gs.drop (k + 1)))) n d cd) ∧ Below w.heap.size w w' := by
  have hk : k < gs.length := (List.getElem?_eq_some_iff.1 hb).1
  have HBI := Lib.hid (show (gs.map bR)[k]? = some (bR b) by rw [List.getElem?_map, hb]; rfl)
  have HL := Lib.hid hl
  have GB := Lib.hid (hg b (List.mem_of_getElem? hb))
  have GX := Lib.hid gx
  have HG := Lib.hid hg
  have i1 : (k : Int) < (gs.length : Int) := by omega
  have GT := Lib.hid (top_good gx (r := gs.drop (k + 1)) fun y hy => hg y (List.mem_of_mem_drop hy))
  clear hl hb gx hg
  by_cases hl2 : k + 1 < gs.length
  · obtain ⟨c2, hc2⟩ : ∃ c, gs[k + 1]? = some c := ⟨gs[k + 1], List.getElem?_eq_getElem hl2⟩
    have GC := Lib.hid (HG.out c2 (List.mem_of_getElem? hc2)).1
    have HC2 := Lib.hid hc2
    have HE2 := Lib.hid (show (gs.map bR)[k + 1]? = some (bR c2) by rw [List.getElem?_map, hc2]; rfl)
    have HT0 : topQ x (gs.drop (k + 1)) = minQ x c2.1 := by rw [drop_cons hc2]; rfl
    clear hc2
    have i2 : (k : Int) + 1 < (gs.length : Int) := by omega
    have s5 : ((k : Int) + 1).toNat = k + 1 := by omega
    by_cases hcx : c2.1 < x
    · have HTT : Hid (topQ x (gs.drop (k + 1)) = c2.1) := by show _ = _; rw [HT0]; unfold minQ; rw [if_pos hcx]
      have HDX := Lib.hid (decide_eq_true hcx)
      have GT2 := GC
      clear hcx HT0
      obtain ⟨g, off, hA, hgB, k0, k1, k2, k3⟩ := cells4 HL.out HBI.out
      subst hA
      clear k0 k1 k2 k3
      go_enter Tryd.func36, Tryd.ntmps36
      go_wp2_with fail
      refine (refAbove_is gs (some ⟨g, off, none⟩) c (k + 1) c2 x true _ ((HL.out.below (by (repeat' (first | with_reducible exact Below.refl _ _ | with_reducible assumption | with_reducible refine Below.drew ?_ | with_reducible refine below_drewN ?_ _ | with_reducible refine Below.setCell ?_ ?_ _ | with_reducible refine Below.alloc ?_ ?_ _ | omega | (simp; done) | (simp; omega)))) (Nat.le_refl _)).more (by simp; omega)) HC2.out hm GC.out GX.out HDX.out).mono ?_
      rintro e w1 ⟨rfl, hb1⟩
      have hw1 : Below w.heap.size w w1 := stepH (by (repeat' (first | with_reducible exact Below.refl _ _ | with_reducible assumption | with_reducible refine Below.drew ?_ | with_reducible refine below_drewN ?_ _ | with_reducible refine Below.setCell ?_ ?_ _ | with_reducible refine Below.alloc ?_ ?_ _ | omega | (simp; done) | (simp; omega)))) hb1
      have X := keepH hb1 (g := w.heap.size) (blk_old (blk_old (blk_new rfl)))
      have R6 := keepH hb1 (g := w.heap.size + 1) (blk_old (blk_new (by simp)))
      have Tp := keepH hb1 (g := w.heap.size + 1 + 1) (blk_new (by simp))
      have z1 := hw1.size
      clear hb1
      have cX := cellH X
      obtain ⟨lX, lX1, lX2⟩ := ltH X
      have cR6 := cellH R6
      obtain ⟨lR6, lR61, lR62⟩ := ltH R6
      have fzR6 := frozH R6
      have cTp := cellH Tp
      obtain ⟨lTp, lTp1, lTp2⟩ := ltH Tp
      have fzTp := frozH Tp
      have hlr : w.heap.size + 1 < w1.heap.size := lt_of_H R6
      have j0 : w1.cell? ⟨g, off + (k + 1) * 4, none⟩ = some (.int .i64 c2.1.num) := cells4n (HL.out.below hw1 (Nat.le_refl _)) HE2.out
      have j1 : w1.cell? ⟨g, off + (k + 1) * 4 + 1, none⟩ = some (.int .i64 c2.1.den) := cells4d (HL.out.below hw1 (Nat.le_refl _)) HE2.out
      go_upto_region 4 with fail
      have qx : w.heap.size ≠ w.heap.size + 1 + 1 := by omega
      have qr : w.heap.size + 1 ≠ w.heap.size + 1 + 1 := by omega
      clear j0 j1
      clear cX lX lX1 lX2 cR6 lR6 lR61 lR62 fzR6 cTp lTp lTp1 lTp2 fzTp
      have hw2 : Below w.heap.size w ((w1.setCell ⟨w.heap.size + 1 + 1, 0, none⟩ (.int .i64 c2.1.num)).setCell ⟨w.heap.size + 1 + 1, 1, none⟩ (.int .i64 c2.1.den)) := by (repeat' (first | with_reducible exact Below.refl _ _ | with_reducible assumption | with_reducible refine Below.drew ?_ | with_reducible refine below_drewN ?_ _ | with_reducible refine Below.setCell ?_ ?_ _ | with_reducible refine Below.alloc ?_ ?_ _ | omega | (simp; done) | (simp; omega)))
      replace X : Hid (((w1.setCell ⟨w.heap.size + 1 + 1, 0, none⟩ (.int .i64 c2.1.num)).setCell ⟨w.heap.size + 1 + 1, 1, none⟩ (.int .i64 c2.1.den)).heap[w.heap.size]? = some (.cells #[.int .i64 x.num, .int .i64 x.den] 24 (0, 0))) := setH2o X (by first | assumption | omega)
      replace R6 : Hid (((w1.setCell ⟨w.heap.size + 1 + 1, 0, none⟩ (.int .i64 c2.1.num)).setCell ⟨w.heap.size + 1 + 1, 1, none⟩ (.int .i64 c2.1.den)).heap[w.heap.size + 1]? = some (.cells #[.int .i64 0, .int .i64 0] 24 (0, 0))) := setH2o R6 (by first | assumption | omega)
      replace Tp : Hid (((w1.setCell ⟨w.heap.size + 1 + 1, 0, none⟩ (.int .i64 c2.1.num)).setCell ⟨w.heap.size + 1 + 1, 1, none⟩ (.int .i64 c2.1.den)).heap[w.heap.size + 1 + 1]? = some (.cells #[.int .i64 c2.1.num, .int .i64 c2.1.den] 24 (0, 0))) := setH2 Tp.out
      generalize ((w1.setCell ⟨w.heap.size + 1 + 1, 0, none⟩ (.int .i64 c2.1.num)).setCell ⟨w.heap.size + 1 + 1, 1, none⟩ (.int .i64 c2.1.den)) = w2 at *
      have z2 := hw2.size
      have cX := cellH X
      obtain ⟨lX, lX1, lX2⟩ := ltH X
      have cR6 := cellH R6
      obtain ⟨lR6, lR61, lR62⟩ := ltH R6
      have fzR6 := frozH R6
      have cTp := cellH Tp
      obtain ⟨lTp, lTp1, lTp2⟩ := ltH Tp
      have fzTp := frozH Tp
      by_cases g1 : Good (c2.1 - b.1)
      · have G1 := Lib.hid g1
        clear g1
        have lr6 : w.heap.size + 1 < w2.heap.size := lt_of_H R6
        go_upto_region 4 with fail
        go_cut [9, 10] (fun s9 s10 wx => ∃ g : Nat, s9 = .pointer (some ⟨g, 0, none⟩) ∧ s10 = .int .i64 0 ∧ w2.heap.size ≤ g ∧ Below w.heap.size w wx ∧ Hid (wx.heap[w.heap.size]? = some (.cells #[.int .i64 x.num, .int .i64 x.den] 24 (0, 0))) ∧ Hid (wx.heap[w.heap.size + 1]? = some (.cells #[.int .i64 0, .int .i64 0] 24 (0, 0))) ∧ Hid (wx.heap[w.heap.size + 1 + 1]? = some (.cells #[.int .i64 c2.1.num, .int .i64 c2.1.den] 24 (0, 0))) ∧ Hid (wx.heap[g]? = some (.cells #[.int .i64 (c2.1 - b.1).num, .int .i64 (c2.1 - b.1).den] 24 (0, 0))))
        case first =>
          as_aux_lemma =>
            clear cX lX lX1 lX2 cR6 lR6 lR61 lR62 fzR6 cTp lTp lTp1 lTp2 fzTp
            have hw3 := hw2
            have kTp0 : w2.cell? ⟨w.heap.size + 1 + 1, 0, none⟩ = some (.int .i64 c2.1.num) := cellH Tp 0
            have kTp1 : w2.cell? ⟨w.heap.size + 1 + 1, 1, none⟩ = some (.int .i64 c2.1.den) := cellH Tp 1
            have kk0 : w2.cell? ⟨g, off + k * 4, none⟩ = some (.int .i64 b.1.num) := (cells4n (HL.out.below hw3 (Nat.le_refl _)) HBI.out)
            have kk1 : w2.cell? ⟨g, off + k * 4 + 1, none⟩ = some (.int .i64 b.1.den) := (cells4d (HL.out.below hw3 (Nat.le_refl _)) HBI.out)
            have lX := lt_of_H X
            have nX : w.heap.size ≠ w2.heap.size := Nat.ne_of_lt lX
            have lR6 := lt_of_H R6
            have nR6 : w.heap.size + 1 ≠ w2.heap.size := Nat.ne_of_lt lR6
            have lTp := lt_of_H Tp
            have nTp : w.heap.size + 1 + 1 ≠ w2.heap.size := Nat.ne_of_lt lTp
            go_region_held3 (fun w' => w'.cell? ⟨w.heap.size + 1 + 1, 0, none⟩ = some (.int .i64 c2.1.num) ∧ w'.cell? ⟨w.heap.size + 1 + 1, 1, none⟩ = some (.int .i64 c2.1.den) ∧ w'.cell? ⟨g, off + k * 4, none⟩ = some (.int .i64 b.1.num) ∧ w'.cell? ⟨g, off + k * 4 + 1, none⟩ = some (.int .i64 b.1.den)) (first | with_reducible exact ⟨kTp0, kTp1, kk0, kk1⟩ | with_reducible exact ⟨cell_set (cell_set kTp0 (by first | assumption | (dsimp only; assumption) | (dsimp only; omega))) (by first | assumption | (dsimp only; assumption) | (dsimp only; omega)), cell_set (cell_set kTp1 (by first | assumption | (dsimp only; assumption) | (dsimp only; omega))) (by first | assumption | (dsimp only; assumption) | (dsimp only; omega)), cell_set (cell_set kk0 (by first | assumption | (dsimp only; assumption) | (dsimp only; omega))) (by first | assumption | (dsimp only; assumption) | (dsimp only; omega)), cell_set (cell_set kk1 (by first | assumption | (dsimp only; assumption) | (dsimp only; omega))) (by first | assumption | (dsimp only; assumption) | (dsimp only; omega))⟩ | go_keep)
              (first | (go_at_call 55; refine (refSub_any c2.1 b.1 _ GT2.out GB.out.1).mono ?_; rintro e w3 ⟨⟨n', d', c', rfl, hr⟩, hb3⟩; obtain ⟨rfl, rfl, rfl⟩ := resC_ok hr (goodR_ok (decide_eq_true G1.out)); have hw3 : Below w.heap.size w w3 := stepH (by (repeat' (first | with_reducible exact Below.refl _ _ | with_reducible assumption | with_reducible refine Below.drew ?_ | with_reducible refine below_drewN ?_ _ | with_reducible refine Below.setCell ?_ ?_ _ | with_reducible refine Below.alloc ?_ ?_ _ | omega | (simp; done) | (simp; omega)))) hb3; have zw3 := hw3.size; (try (have NB := keepH hb3 (by with_reducible first | exact blk_new rfl | exact drew_old (blk_new rfl) | exact NB.out | exact drew_old NB.out); have cNB := cellH NB; have fNB := frozH NB)); replace X := keepH hb3 (by first | with_reducible exact X.out | with_reducible exact blk_old X.out | with_reducible exact drew_old X.out | with_reducible exact drew_old (blk_old X.out)); replace R6 := keepH hb3 (by first | with_reducible exact R6.out | with_reducible exact blk_old R6.out | with_reducible exact drew_old R6.out | with_reducible exact drew_old (blk_old R6.out)); replace Tp := keepH hb3 (by first | with_reducible exact Tp.out | with_reducible exact blk_old Tp.out | with_reducible exact drew_old Tp.out | with_reducible exact drew_old (blk_old Tp.out)); have kTp0 : w3.cell? ⟨w.heap.size + 1 + 1, 0, none⟩ = some (.int .i64 c2.1.num) := cellH Tp 0; have kTp1 : w3.cell? ⟨w.heap.size + 1 + 1, 1, none⟩ = some (.int .i64 c2.1.den) := cellH Tp 1; have kk0 : w3.cell? ⟨g, off + k * 4, none⟩ = some (.int .i64 b.1.num) := (cells4n (HL.out.below hw3 (Nat.le_refl _)) HBI.out); have kk1 : w3.cell? ⟨g, off + k * 4 + 1, none⟩ = some (.int .i64 b.1.den) := (cells4d (HL.out.below hw3 (Nat.le_refl _)) HBI.out); have lX := lt_of_H X; have nX : w.heap.size ≠ w3.heap.size := Nat.ne_of_lt lX; have lR6 := lt_of_H R6; have nR6 : w.heap.size + 1 ≠ w3.heap.size := Nat.ne_of_lt lR6; have lTp := lt_of_H Tp; have nTp : w.heap.size + 1 + 1 ≠ w3.heap.size := Nat.ne_of_lt lTp; have HP : Below w2.heap.size w2 w3 := stepH (by (repeat' (first | with_reducible exact Below.refl _ _ | with_reducible assumption | with_reducible refine Below.drew ?_ | with_reducible refine below_drewN ?_ _ | with_reducible refine Below.setCell ?_ ?_ _ | with_reducible refine Below.alloc ?_ ?_ _ | omega | (simp; done) | (simp; omega)))) hb3; have zP := HP.size))
            all_goals go_wp2_with fail
            all_goals go_meet
            all_goals exact ⟨_, rfl, rfl, (by first | omega | (simp; omega)), (by (repeat' (first | with_reducible exact Below.refl _ _ | with_reducible assumption | with_reducible refine Below.drew ?_ | with_reducible refine below_drewN ?_ _ | with_reducible refine Below.setCell ?_ ?_ _ | with_reducible refine Below.alloc ?_ ?_ _ | omega | (simp; done) | (simp; omega)))), (by with_reducible first | exact X | exact setH2o X (by assumption) | exact Lib.hid (blk_old X.out)), (by with_reducible first | exact R6 | exact setH2o R6 (by assumption) | exact Lib.hid (blk_old R6.out)), (by with_reducible first | exact Tp | exact setH2o Tp (by assumption) | exact Lib.hid (blk_old Tp.out)), (by first | with_reducible exact setH2 NB.out | exact blk_new rfl)⟩
        case rest =>
          as_aux_lemma =>
            clear X R6 Tp
            obtain ⟨gDd, rfl, rfl, hgD, hw4, X, R6, Tp, Dd⟩ := hcut
            obtain ⟨w4, rfl⟩ : ∃ x : World, x = wc := ⟨_, rfl⟩
            have z4 := hw4.size
            have cX := cellH X
            obtain ⟨lX, lX1, lX2⟩ := ltH X
            have cR6 := cellH R6
            obtain ⟨lR6, lR61, lR62⟩ := ltH R6
            have fzR6 := frozH R6
            have cTp := cellH Tp
            obtain ⟨lTp, lTp1, lTp2⟩ := ltH Tp
            have fzTp := frozH Tp
            have cDd := cellH Dd
            obtain ⟨lDd, lDd1, lDd2⟩ := ltH Dd
            go_upto_region 7 with fail
            clear cX lX lX1 lX2 cR6 lR6 lR61 lR62 fzR6 cTp lTp lTp1 lTp2 fzTp cDd lDd lDd1 lDd2
            have k2 : w4.cell? ⟨g, off + k * 4 + 2, none⟩ = some (.int .i64 b.2.num) := cells4r (HL.out.below hw4 (Nat.le_refl _)) HBI.out
            have k3 : w4.cell? ⟨g, off + k * 4 + 3, none⟩ = some (.int .i64 b.2.den) := cells4s (HL.out.below hw4 (Nat.le_refl _)) HBI.out
            have d0 : w4.cell? ⟨gDd, 0, none⟩ = some (.int .i64 (c2.1 - b.1).num) := cellH Dd 0
            have d1 : w4.cell? ⟨gDd, 1, none⟩ = some (.int .i64 (c2.1 - b.1).den) := cellH Dd 1
            have n1 : g ≠ w.heap.size + 1 := by omega
            have n2 : gDd ≠ w.heap.size + 1 := by omega
            go_region_held3 (fun w' => w'.cell? ⟨g, off + k * 4 + 2, none⟩ = some (.int .i64 b.2.num) ∧ w'.cell? ⟨g, off + k * 4 + 3, none⟩ = some (.int .i64 b.2.den) ∧ w'.cell? ⟨gDd, 0, none⟩ = some (.int .i64 (c2.1 - b.1).num) ∧ w'.cell? ⟨gDd, 1, none⟩ = some (.int .i64 (c2.1 - b.1).den)) (first | with_reducible exact ⟨k2, k3, d0, d1⟩ | with_reducible exact ⟨cell_set (cell_set k2 (by first | assumption | (dsimp only; assumption) | (dsimp only; omega))) (by first | assumption | (dsimp only; assumption) | (dsimp only; omega)), cell_set (cell_set k3 (by first | assumption | (dsimp only; assumption) | (dsimp only; omega))) (by first | assumption | (dsimp only; assumption) | (dsimp only; omega)), cell_set (cell_set d0 (by first | assumption | (dsimp only; assumption) | (dsimp only; omega))) (by first | assumption | (dsimp only; assumption) | (dsimp only; omega)), cell_set (cell_set d1 (by first | assumption | (dsimp only; assumption) | (dsimp only; omega))) (by first | assumption | (dsimp only; assumption) | (dsimp only; omega))⟩ | go_keep)
              (first | (go_at_call 40; refine (refMul_any b.2 (c2.1 - b.1) _ GB.out.2 G1.out).mono ?_; rintro e w5 ⟨⟨n', d', c', rfl, hr⟩, hb5⟩; have hw5 : Below w.heap.size w w5 := stepH (by (repeat' (first | with_reducible exact Below.refl _ _ | with_reducible assumption | with_reducible refine Below.drew ?_ | with_reducible refine below_drewN ?_ _ | with_reducible refine Below.setCell ?_ ?_ _ | with_reducible refine Below.alloc ?_ ?_ _ | omega | (simp; done) | (simp; omega)))) hb5; replace R6 := keepH hb5 (by exact R6.out); have cR6 := cellH R6; have fR6 := frozH R6; have lR6 := lt_of_H R6; replace k2 := cellOf hb5 (by first | exact k2 | exact cell_drew k2); replace k3 := cellOf hb5 (by first | exact k3 | exact cell_drew k3); replace d0 := cellOf hb5 (by first | exact d0 | exact cell_drew d0); replace d1 := cellOf hb5 (by first | exact d1 | exact cell_drew d1)))
            all_goals go_wp2_with fail
            all_goals refine bodyPost_ret (v := .tuple #[.agg #[.int .i64 n', .int .i64 d'], .int .i64 c']) (by simp [results, Tryd.results36, go_sem, cR6]) rfl ⟨⟨_, _, _, rfl, (by rw [HTT.out]; unfold partR; rw [if_pos G1.out]; exact hr)⟩, by (repeat' (first | with_reducible exact Below.refl _ _ | with_reducible assumption | with_reducible refine Below.drew ?_ | with_reducible refine below_drewN ?_ _ | with_reducible refine Below.setCell ?_ ?_ _ | with_reducible refine Below.alloc ?_ ?_ _ | omega | (simp; done) | (simp; omega)))⟩
      · have G1 := Lib.hid g1
        clear g1
        have lr6 : w.heap.size + 1 < w2.heap.size := lt_of_H R6
        go_upto_region 4 with fail
        go_cut [9, 10] (fun s9 s10 wx => ∃ g : Nat, s9 = .pointer (some ⟨g, 0, none⟩) ∧ (∃ c9 : Int, s10 = .int .i64 c9 ∧ (c9 = 101 ∨ c9 = 102 ∨ c9 = 103)) ∧ w2.heap.size ≤ g ∧ Below w.heap.size w wx ∧ Hid (wx.heap[w.heap.size]? = some (.cells #[.int .i64 x.num, .int .i64 x.den] 24 (0, 0))) ∧ Hid (wx.heap[w.heap.size + 1]? = some (.cells #[.int .i64 0, .int .i64 0] 24 (0, 0))) ∧ Hid (wx.heap[w.heap.size + 1 + 1]? = some (.cells #[.int .i64 c2.1.num, .int .i64 c2.1.den] 24 (0, 0))) ∧ Hid (wx.heap[g]? = some (.cells #[.int .i64 0, .int .i64 0] 24 (0, 0))))
        case first =>
          as_aux_lemma =>
            clear cX lX lX1 lX2 cR6 lR6 lR61 lR62 fzR6 cTp lTp lTp1 lTp2 fzTp
            have hw6 := hw2
            have kTp0 : w2.cell? ⟨w.heap.size + 1 + 1, 0, none⟩ = some (.int .i64 c2.1.num) := cellH Tp 0
            have kTp1 : w2.cell? ⟨w.heap.size + 1 + 1, 1, none⟩ = some (.int .i64 c2.1.den) := cellH Tp 1
            have kk0 : w2.cell? ⟨g, off + k * 4, none⟩ = some (.int .i64 b.1.num) := (cells4n (HL.out.below hw6 (Nat.le_refl _)) HBI.out)
            have kk1 : w2.cell? ⟨g, off + k * 4 + 1, none⟩ = some (.int .i64 b.1.den) := (cells4d (HL.out.below hw6 (Nat.le_refl _)) HBI.out)
            have lX := lt_of_H X
            have nX : w.heap.size ≠ w2.heap.size := Nat.ne_of_lt lX
            have lR6 := lt_of_H R6
            have nR6 : w.heap.size + 1 ≠ w2.heap.size := Nat.ne_of_lt lR6
            have lTp := lt_of_H Tp
            have nTp : w.heap.size + 1 + 1 ≠ w2.heap.size := Nat.ne_of_lt lTp
            go_region_held3 (fun w' => w'.cell? ⟨w.heap.size + 1 + 1, 0, none⟩ = some (.int .i64 c2.1.num) ∧ w'.cell? ⟨w.heap.size + 1 + 1, 1, none⟩ = some (.int .i64 c2.1.den) ∧ w'.cell? ⟨g, off + k * 4, none⟩ = some (.int .i64 b.1.num) ∧ w'.cell? ⟨g, off + k * 4 + 1, none⟩ = some (.int .i64 b.1.den)) (first | with_reducible exact ⟨kTp0, kTp1, kk0, kk1⟩ | with_reducible exact ⟨cell_set (cell_set kTp0 (by first | assumption | (dsimp only; assumption) | (dsimp only; omega))) (by first | assumption | (dsimp only; assumption) | (dsimp only; omega)), cell_set (cell_set kTp1 (by first | assumption | (dsimp only; assumption) | (dsimp only; omega))) (by first | assumption | (dsimp only; assumption) | (dsimp only; omega)), cell_set (cell_set kk0 (by first | assumption | (dsimp only; assumption) | (dsimp only; omega))) (by first | assumption | (dsimp only; assumption) | (dsimp only; omega)), cell_set (cell_set kk1 (by first | assumption | (dsimp only; assumption) | (dsimp only; omega))) (by first | assumption | (dsimp only; assumption) | (dsimp only; omega))⟩ | go_keep)
              (first | (go_at_call 55; refine (refSub_any c2.1 b.1 _ GT2.out GB.out.1).mono ?_; rintro e w6 ⟨⟨n', d', c', rfl, hr⟩, hb6⟩; obtain ⟨rfl, rfl, hc3⟩ := resC_no hr (goodR_no (decide_eq_false G1.out)); have hw6 : Below w.heap.size w w6 := stepH (by (repeat' (first | with_reducible exact Below.refl _ _ | with_reducible assumption | with_reducible refine Below.drew ?_ | with_reducible refine below_drewN ?_ _ | with_reducible refine Below.setCell ?_ ?_ _ | with_reducible refine Below.alloc ?_ ?_ _ | omega | (simp; done) | (simp; omega)))) hb6; have zw6 := hw6.size; (try (have NB := keepH hb6 (by with_reducible first | exact blk_new rfl | exact drew_old (blk_new rfl) | exact NB.out | exact drew_old NB.out); have cNB := cellH NB; have fNB := frozH NB)); replace X := keepH hb6 (by first | with_reducible exact X.out | with_reducible exact blk_old X.out | with_reducible exact drew_old X.out | with_reducible exact drew_old (blk_old X.out)); replace R6 := keepH hb6 (by first | with_reducible exact R6.out | with_reducible exact blk_old R6.out | with_reducible exact drew_old R6.out | with_reducible exact drew_old (blk_old R6.out)); replace Tp := keepH hb6 (by first | with_reducible exact Tp.out | with_reducible exact blk_old Tp.out | with_reducible exact drew_old Tp.out | with_reducible exact drew_old (blk_old Tp.out)); have kTp0 : w6.cell? ⟨w.heap.size + 1 + 1, 0, none⟩ = some (.int .i64 c2.1.num) := cellH Tp 0; have kTp1 : w6.cell? ⟨w.heap.size + 1 + 1, 1, none⟩ = some (.int .i64 c2.1.den) := cellH Tp 1; have kk0 : w6.cell? ⟨g, off + k * 4, none⟩ = some (.int .i64 b.1.num) := (cells4n (HL.out.below hw6 (Nat.le_refl _)) HBI.out); have kk1 : w6.cell? ⟨g, off + k * 4 + 1, none⟩ = some (.int .i64 b.1.den) := (cells4d (HL.out.below hw6 (Nat.le_refl _)) HBI.out); have lX := lt_of_H X; have nX : w.heap.size ≠ w6.heap.size := Nat.ne_of_lt lX; have lR6 := lt_of_H R6; have nR6 : w.heap.size + 1 ≠ w6.heap.size := Nat.ne_of_lt lR6; have lTp := lt_of_H Tp; have nTp : w.heap.size + 1 + 1 ≠ w6.heap.size := Nat.ne_of_lt lTp; have HP : Below w2.heap.size w2 w6 := stepH (by (repeat' (first | with_reducible exact Below.refl _ _ | with_reducible assumption | with_reducible refine Below.drew ?_ | with_reducible refine below_drewN ?_ _ | with_reducible refine Below.setCell ?_ ?_ _ | with_reducible refine Below.alloc ?_ ?_ _ | omega | (simp; done) | (simp; omega)))) hb6; have zP := HP.size))
            all_goals go_wp2_with fail
            all_goals go_meet
            all_goals exact ⟨_, rfl, ⟨_, rfl, hc3⟩, (by first | omega | (simp; omega)), (by (repeat' (first | with_reducible exact Below.refl _ _ | with_reducible assumption | with_reducible refine Below.drew ?_ | with_reducible refine below_drewN ?_ _ | with_reducible refine Below.setCell ?_ ?_ _ | with_reducible refine Below.alloc ?_ ?_ _ | omega | (simp; done) | (simp; omega)))), (by with_reducible first | exact X | exact setH2o X (by assumption) | exact Lib.hid (blk_old X.out)), (by with_reducible first | exact R6 | exact setH2o R6 (by assumption) | exact Lib.hid (blk_old R6.out)), (by with_reducible first | exact Tp | exact setH2o Tp (by assumption) | exact Lib.hid (blk_old Tp.out)), (by first | with_reducible exact setH2 NB.out | exact blk_new rfl)⟩
        case rest =>
          as_aux_lemma =>
            clear X R6 Tp
            obtain ⟨gDd, rfl, ⟨c9, rfl, hc9⟩, hgD, hw7, X, R6, Tp, Dd⟩ := hcut
            obtain ⟨w7, rfl⟩ : ∃ x : World, x = wc := ⟨_, rfl⟩
            have z7 := hw7.size
            have cX := cellH X
            obtain ⟨lX, lX1, lX2⟩ := ltH X
            have cR6 := cellH R6
            obtain ⟨lR6, lR61, lR62⟩ := ltH R6
            have fzR6 := frozH R6
            have cTp := cellH Tp
            obtain ⟨lTp, lTp1, lTp2⟩ := ltH Tp
            have fzTp := frozH Tp
            have cDd := cellH Dd
            obtain ⟨lDd, lDd1, lDd2⟩ := ltH Dd
            have hcn : (c9 != 0) = true := by rcases hc9 with rfl | rfl | rfl <;> decide
            have HC9 := Lib.hid hc9
            clear hc9
            go_wp2_with fail
            refine bodyPost_ret (v := .tuple #[.agg #[.int .i64 0, .int .i64 0], .int .i64 c9]) (by simp [results, Tryd.results36, go_sem, cR6]) rfl ⟨⟨_, _, _, rfl, (by rw [HTT.out]; unfold partR; rw [if_neg G1.out]; exact ⟨rfl, rfl, HC9.out⟩)⟩, by (repeat' (first | with_reducible exact Below.refl _ _ | with_reducible assumption | with_reducible refine Below.drew ?_ | with_reducible refine below_drewN ?_ _ | with_reducible refine Below.setCell ?_ ?_ _ | with_reducible refine Below.alloc ?_ ?_ _ | omega | (simp; done) | (simp; omega)))⟩
    · have HTT : Hid (topQ x (gs.drop (k + 1)) = x) := by show _ = _; rw [HT0]; unfold minQ; rw [if_neg hcx]
      have HDX := Lib.hid (decide_eq_false hcx)
      have GT2 := GX
      clear hcx HT0
      obtain ⟨g, off, hA, hgB, k0, k1, k2, k3⟩ := cells4 HL.out HBI.out
      subst hA
      clear k0 k1 k2 k3
      go_enter Tryd.func36, Tryd.ntmps36
      go_wp2_with fail
      refine (refAbove_is gs (some ⟨g, off, none⟩) c (k + 1) c2 x false _ ((HL.out.below (by (repeat' (first | with_reducible exact Below.refl _ _ | with_reducible assumption | with_reducible refine Below.drew ?_ | with_reducible refine below_drewN ?_ _ | with_reducible refine Below.setCell ?_ ?_ _ | with_reducible refine Below.alloc ?_ ?_ _ | omega | (simp; done) | (simp; omega)))) (Nat.le_refl _)).more (by simp; omega)) HC2.out hm GC.out GX.out HDX.out).mono ?_
      rintro e w8 ⟨rfl, hb8⟩
      have hw8 : Below w.heap.size w w8 := stepH (by (repeat' (first | with_reducible exact Below.refl _ _ | with_reducible assumption | with_reducible refine Below.drew ?_ | with_reducible refine below_drewN ?_ _ | with_reducible refine Below.setCell ?_ ?_ _ | with_reducible refine Below.alloc ?_ ?_ _ | omega | (simp; done) | (simp; omega)))) hb8
      have X := keepH hb8 (g := w.heap.size) (blk_old (blk_old (blk_new rfl)))
      have R6 := keepH hb8 (g := w.heap.size + 1) (blk_old (blk_new (by simp)))
      have Tp := keepH hb8 (g := w.heap.size + 1 + 1) (blk_new (by simp))
      have z8 := hw8.size
      clear hb8
      have cX := cellH X
      obtain ⟨lX, lX1, lX2⟩ := ltH X
      have cR6 := cellH R6
      obtain ⟨lR6, lR61, lR62⟩ := ltH R6
      have fzR6 := frozH R6
      have cTp := cellH Tp
      obtain ⟨lTp, lTp1, lTp2⟩ := ltH Tp
      have fzTp := frozH Tp
      go_upto_region 4 with fail
      clear cX lX lX1 lX2 cR6 lR6 lR61 lR62 fzR6 cTp lTp lTp1 lTp2 fzTp
      by_cases g1 : Good (x - b.1)
      · have G1 := Lib.hid g1
        clear g1
        have lr6 : w.heap.size + 1 < w8.heap.size := lt_of_H R6
        go_upto_region 4 with fail
        go_cut [9, 10] (fun s9 s10 wx => ∃ g : Nat, s9 = .pointer (some ⟨g, 0, none⟩) ∧ s10 = .int .i64 0 ∧ w8.heap.size ≤ g ∧ Below w.heap.size w wx ∧ Hid (wx.heap[w.heap.size]? = some (.cells #[.int .i64 x.num, .int .i64 x.den] 24 (0, 0))) ∧ Hid (wx.heap[w.heap.size + 1]? = some (.cells #[.int .i64 0, .int .i64 0] 24 (0, 0))) ∧ Hid (wx.heap[w.heap.size + 1 + 1]? = some (.cells #[.int .i64 x.num, .int .i64 x.den] 24 (0, 0))) ∧ Hid (wx.heap[g]? = some (.cells #[.int .i64 (x - b.1).num, .int .i64 (x - b.1).den] 24 (0, 0))))
        case first =>
          as_aux_lemma =>
            have hw9 := hw8
            have kTp0 : w8.cell? ⟨w.heap.size + 1 + 1, 0, none⟩ = some (.int .i64 x.num) := cellH Tp 0
            have kTp1 : w8.cell? ⟨w.heap.size + 1 + 1, 1, none⟩ = some (.int .i64 x.den) := cellH Tp 1
            have kk0 : w8.cell? ⟨g, off + k * 4, none⟩ = some (.int .i64 b.1.num) := (cells4n (HL.out.below hw9 (Nat.le_refl _)) HBI.out)
            have kk1 : w8.cell? ⟨g, off + k * 4 + 1, none⟩ = some (.int .i64 b.1.den) := (cells4d (HL.out.below hw9 (Nat.le_refl _)) HBI.out)
            have lX := lt_of_H X
            have nX : w.heap.size ≠ w8.heap.size := Nat.ne_of_lt lX
            have lR6 := lt_of_H R6
            have nR6 : w.heap.size + 1 ≠ w8.heap.size := Nat.ne_of_lt lR6
            have lTp := lt_of_H Tp
            have nTp : w.heap.size + 1 + 1 ≠ w8.heap.size := Nat.ne_of_lt lTp
            go_region_held3 (fun w' => w'.cell? ⟨w.heap.size + 1 + 1, 0, none⟩ = some (.int .i64 x.num) ∧ w'.cell? ⟨w.heap.size + 1 + 1, 1, none⟩ = some (.int .i64 x.den) ∧ w'.cell? ⟨g, off + k * 4, none⟩ = some (.int .i64 b.1.num) ∧ w'.cell? ⟨g, off + k * 4 + 1, none⟩ = some (.int .i64 b.1.den)) (first | with_reducible exact ⟨kTp0, kTp1, kk0, kk1⟩ | with_reducible exact ⟨cell_set (cell_set kTp0 (by first | assumption | (dsimp only; assumption) | (dsimp only; omega))) (by first | assumption | (dsimp only; assumption) | (dsimp only; omega)), cell_set (cell_set kTp1 (by first | assumption | (dsimp only; assumption) | (dsimp only; omega))) (by first | assumption | (dsimp only; assumption) | (dsimp only; omega)), cell_set (cell_set kk0 (by first | assumption | (dsimp only; assumption) | (dsimp only; omega))) (by first | assumption | (dsimp only; assumption) | (dsimp only; omega)), cell_set (cell_set kk1 (by first | assumption | (dsimp only; assumption) | (dsimp only; omega))) (by first | assumption | (dsimp only; assumption) | (dsimp only; omega))⟩ | go_keep)
              (first | (go_at_call 55; refine (refSub_any x b.1 _ GT2.out GB.out.1).mono ?_; rintro e w9 ⟨⟨n', d', c', rfl, hr⟩, hb9⟩; obtain ⟨rfl, rfl, rfl⟩ := resC_ok hr (goodR_ok (decide_eq_true G1.out)); have hw9 : Below w.heap.size w w9 := stepH (by (repeat' (first | with_reducible exact Below.refl _ _ | with_reducible assumption | with_reducible refine Below.drew ?_ | with_reducible refine below_drewN ?_ _ | with_reducible refine Below.setCell ?_ ?_ _ | with_reducible refine Below.alloc ?_ ?_ _ | omega | (simp; done) | (simp; omega)))) hb9; have zw9 := hw9.size; (try (have NB := keepH hb9 (by with_reducible first | exact blk_new rfl | exact drew_old (blk_new rfl) | exact NB.out | exact drew_old NB.out); have cNB := cellH NB; have fNB := frozH NB)); replace X := keepH hb9 (by first | with_reducible exact X.out | with_reducible exact blk_old X.out | with_reducible exact drew_old X.out | with_reducible exact drew_old (blk_old X.out)); replace R6 := keepH hb9 (by first | with_reducible exact R6.out | with_reducible exact blk_old R6.out | with_reducible exact drew_old R6.out | with_reducible exact drew_old (blk_old R6.out)); replace Tp := keepH hb9 (by first | with_reducible exact Tp.out | with_reducible exact blk_old Tp.out | with_reducible exact drew_old Tp.out | with_reducible exact drew_old (blk_old Tp.out)); have kTp0 : w9.cell? ⟨w.heap.size + 1 + 1, 0, none⟩ = some (.int .i64 x.num) := cellH Tp 0; have kTp1 : w9.cell? ⟨w.heap.size + 1 + 1, 1, none⟩ = some (.int .i64 x.den) := cellH Tp 1; have kk0 : w9.cell? ⟨g, off + k * 4, none⟩ = some (.int .i64 b.1.num) := (cells4n (HL.out.below hw9 (Nat.le_refl _)) HBI.out); have kk1 : w9.cell? ⟨g, off + k * 4 + 1, none⟩ = some (.int .i64 b.1.den) := (cells4d (HL.out.below hw9 (Nat.le_refl _)) HBI.out); have lX := lt_of_H X; have nX : w.heap.size ≠ w9.heap.size := Nat.ne_of_lt lX; have lR6 := lt_of_H R6; have nR6 : w.heap.size + 1 ≠ w9.heap.size := Nat.ne_of_lt lR6; have lTp := lt_of_H Tp; have nTp : w.heap.size + 1 + 1 ≠ w9.heap.size := Nat.ne_of_lt lTp; have HP : Below w8.heap.size w8 w9 := stepH (by (repeat' (first | with_reducible exact Below.refl _ _ | with_reducible assumption | with_reducible refine Below.drew ?_ | with_reducible refine below_drewN ?_ _ | with_reducible refine Below.setCell ?_ ?_ _ | with_reducible refine Below.alloc ?_ ?_ _ | omega | (simp; done) | (simp; omega)))) hb9; have zP := HP.size))
            all_goals go_wp2_with fail
            all_goals go_meet
            all_goals exact ⟨_, rfl, rfl, (by first | omega | (simp; omega)), (by (repeat' (first | with_reducible exact Below.refl _ _ | with_reducible assumption | with_reducible refine Below.drew ?_ | with_reducible refine below_drewN ?_ _ | with_reducible refine Below.setCell ?_ ?_ _ | with_reducible refine Below.alloc ?_ ?_ _ | omega | (simp; done) | (simp; omega)))), (by with_reducible first | exact X | exact setH2o X (by assumption) | exact Lib.hid (blk_old X.out)), (by with_reducible first | exact R6 | exact setH2o R6 (by assumption) | exact Lib.hid (blk_old R6.out)), (by with_reducible first | exact Tp | exact setH2o Tp (by assumption) | exact Lib.hid (blk_old Tp.out)), (by first | with_reducible exact setH2 NB.out | exact blk_new rfl)⟩
        case rest =>
          as_aux_lemma =>
            clear X R6 Tp
            obtain ⟨gDd, rfl, rfl, hgD, hw10, X, R6, Tp, Dd⟩ := hcut
            obtain ⟨w10, rfl⟩ : ∃ x : World, x = wc := ⟨_, rfl⟩
            have z10 := hw10.size
            have cX := cellH X
            obtain ⟨lX, lX1, lX2⟩ := ltH X
            have cR6 := cellH R6
            obtain ⟨lR6, lR61, lR62⟩ := ltH R6
            have fzR6 := frozH R6
            have cTp := cellH Tp
            obtain ⟨lTp, lTp1, lTp2⟩ := ltH Tp
            have fzTp := frozH Tp
            have cDd := cellH Dd
            obtain ⟨lDd, lDd1, lDd2⟩ := ltH Dd
            go_upto_region 7 with fail
            clear cX lX lX1 lX2 cR6 lR6 lR61 lR62 fzR6 cTp lTp lTp1 lTp2 fzTp cDd lDd lDd1 lDd2
            have k2 : w10.cell? ⟨g, off + k * 4 + 2, none⟩ = some (.int .i64 b.2.num) := cells4r (HL.out.below hw10 (Nat.le_refl _)) HBI.out
            have k3 : w10.cell? ⟨g, off + k * 4 + 3, none⟩ = some (.int .i64 b.2.den) := cells4s (HL.out.below hw10 (Nat.le_refl _)) HBI.out
            have d0 : w10.cell? ⟨gDd, 0, none⟩ = some (.int .i64 (x - b.1).num) := cellH Dd 0
            have d1 : w10.cell? ⟨gDd, 1, none⟩ = some (.int .i64 (x - b.1).den) := cellH Dd 1
            have n1 : g ≠ w.heap.size + 1 := by omega
            have n2 : gDd ≠ w.heap.size + 1 := by omega
            go_region_held3 (fun w' => w'.cell? ⟨g, off + k * 4 + 2, none⟩ = some (.int .i64 b.2.num) ∧ w'.cell? ⟨g, off + k * 4 + 3, none⟩ = some (.int .i64 b.2.den) ∧ w'.cell? ⟨gDd, 0, none⟩ = some (.int .i64 (x - b.1).num) ∧ w'.cell? ⟨gDd, 1, none⟩ = some (.int .i64 (x - b.1).den)) (first | with_reducible exact ⟨k2, k3, d0, d1⟩ | with_reducible exact ⟨cell_set (cell_set k2 (by first | assumption | (dsimp only; assumption) | (dsimp only; omega))) (by first | assumption | (dsimp only; assumption) | (dsimp only; omega)), cell_set (cell_set k3 (by first | assumption | (dsimp only; assumption) | (dsimp only; omega))) (by first | assumption | (dsimp only; assumption) | (dsimp only; omega)), cell_set (cell_set d0 (by first | assumption | (dsimp only; assumption) | (dsimp only; omega))) (by first | assumption | (dsimp only; assumption) | (dsimp only; omega)), cell_set (cell_set d1 (by first | assumption | (dsimp only; assumption) | (dsimp only; omega))) (by first | assumption | (dsimp only; assumption) | (dsimp only; omega))⟩ | go_keep)
              (first | (go_at_call 40; refine (refMul_any b.2 (x - b.1) _ GB.out.2 G1.out).mono ?_; rintro e w11 ⟨⟨n', d', c', rfl, hr⟩, hb11⟩; have hw11 : Below w.heap.size w w11 := stepH (by (repeat' (first | with_reducible exact Below.refl _ _ | with_reducible assumption | with_reducible refine Below.drew ?_ | with_reducible refine below_drewN ?_ _ | with_reducible refine Below.setCell ?_ ?_ _ | with_reducible refine Below.alloc ?_ ?_ _ | omega | (simp; done) | (simp; omega)))) hb11; replace R6 := keepH hb11 (by exact R6.out); have cR6 := cellH R6; have fR6 := frozH R6; have lR6 := lt_of_H R6; replace k2 := cellOf hb11 (by first | exact k2 | exact cell_drew k2); replace k3 := cellOf hb11 (by first | exact k3 | exact cell_drew k3); replace d0 := cellOf hb11 (by first | exact d0 | exact cell_drew d0); replace d1 := cellOf hb11 (by first | exact d1 | exact cell_drew d1)))
            all_goals go_wp2_with fail
            all_goals refine bodyPost_ret (v := .tuple #[.agg #[.int .i64 n', .int .i64 d'], .int .i64 c']) (by simp [results, Tryd.results36, go_sem, cR6]) rfl ⟨⟨_, _, _, rfl, (by rw [HTT.out]; unfold partR; rw [if_pos G1.out]; exact hr)⟩, by (repeat' (first | with_reducible exact Below.refl _ _ | with_reducible assumption | with_reducible refine Below.drew ?_ | with_reducible refine below_drewN ?_ _ | with_reducible refine Below.setCell ?_ ?_ _ | with_reducible refine Below.alloc ?_ ?_ _ | omega | (simp; done) | (simp; omega)))⟩
      · have G1 := Lib.hid g1
        clear g1
        have lr6 : w.heap.size + 1 < w8.heap.size := lt_of_H R6
        go_upto_region 4 with fail
        go_cut [9, 10] (fun s9 s10 wx => ∃ g : Nat, s9 = .pointer (some ⟨g, 0, none⟩) ∧ (∃ c9 : Int, s10 = .int .i64 c9 ∧ (c9 = 101 ∨ c9 = 102 ∨ c9 = 103)) ∧ w8.heap.size ≤ g ∧ Below w.heap.size w wx ∧ Hid (wx.heap[w.heap.size]? = some (.cells #[.int .i64 x.num, .int .i64 x.den] 24 (0, 0))) ∧ Hid (wx.heap[w.heap.size + 1]? = some (.cells #[.int .i64 0, .int .i64 0] 24 (0, 0))) ∧ Hid (wx.heap[w.heap.size + 1 + 1]? = some (.cells #[.int .i64 x.num, .int .i64 x.den] 24 (0, 0))) ∧ Hid (wx.heap[g]? = some (.cells #[.int .i64 0, .int .i64 0] 24 (0, 0))))
        case first =>
          as_aux_lemma =>
            have hw12 := hw8
            have kTp0 : w8.cell? ⟨w.heap.size + 1 + 1, 0, none⟩ = some (.int .i64 x.num) := cellH Tp 0
            have kTp1 : w8.cell? ⟨w.heap.size + 1 + 1, 1, none⟩ = some (.int .i64 x.den) := cellH Tp 1
            have kk0 : w8.cell? ⟨g, off + k * 4, none⟩ = some (.int .i64 b.1.num) := (cells4n (HL.out.below hw12 (Nat.le_refl _)) HBI.out)
            have kk1 : w8.cell? ⟨g, off + k * 4 + 1, none⟩ = some (.int .i64 b.1.den) := (cells4d (HL.out.below hw12 (Nat.le_refl _)) HBI.out)
            have lX := lt_of_H X
            have nX : w.heap.size ≠ w8.heap.size := Nat.ne_of_lt lX
            have lR6 := lt_of_H R6
            have nR6 : w.heap.size + 1 ≠ w8.heap.size := Nat.ne_of_lt lR6
            have lTp := lt_of_H Tp
            have nTp : w.heap.size + 1 + 1 ≠ w8.heap.size := Nat.ne_of_lt lTp
            go_region_held3 (fun w' => w'.cell? ⟨w.heap.size + 1 + 1, 0, none⟩ = some (.int .i64 x.num) ∧ w'.cell? ⟨w.heap.size + 1 + 1, 1, none⟩ = some (.int .i64 x.den) ∧ w'.cell? ⟨g, off + k * 4, none⟩ = some (.int .i64 b.1.num) ∧ w'.cell? ⟨g, off + k * 4 + 1, none⟩ = some (.int .i64 b.1.den)) (first | with_reducible exact ⟨kTp0, kTp1, kk0, kk1⟩ | with_reducible exact ⟨cell_set (cell_set kTp0 (by first | assumption | (dsimp only; assumption) | (dsimp only; omega))) (by first | assumption | (dsimp only; assumption) | (dsimp only; omega)), cell_set (cell_set kTp1 (by first | assumption | (dsimp only; assumption) | (dsimp only; omega))) (by first | assumption | (dsimp only; assumption) | (dsimp only; omega)), cell_set (cell_set kk0 (by first | assumption | (dsimp only; assumption) | (dsimp only; omega))) (by first | assumption | (dsimp only; assumption) | (dsimp only; omega)), cell_set (cell_set kk1 (by first | assumption | (dsimp only; assumption) | (dsimp only; omega))) (by first | assumption | (dsimp only; assumption) | (dsimp only; omega))⟩ | go_keep)
              (first | (go_at_call 55; refine (refSub_any x b.1 _ GT2.out GB.out.1).mono ?_; rintro e w12 ⟨⟨n', d', c', rfl, hr⟩, hb12⟩; obtain ⟨rfl, rfl, hc3⟩ := resC_no hr (goodR_no (decide_eq_false G1.out)); have hw12 : Below w.heap.size w w12 := stepH (by (repeat' (first | with_reducible exact Below.refl _ _ | with_reducible assumption | with_reducible refine Below.drew ?_ | with_reducible refine below_drewN ?_ _ | with_reducible refine Below.setCell ?_ ?_ _ | with_reducible refine Below.alloc ?_ ?_ _ | omega | (simp; done) | (simp; omega)))) hb12; have zw12 := hw12.size; (try (have NB := keepH hb12 (by with_reducible first | exact blk_new rfl | exact drew_old (blk_new rfl) | exact NB.out | exact drew_old NB.out); have cNB := cellH NB; have fNB := frozH NB)); replace X := keepH hb12 (by first | with_reducible exact X.out | with_reducible exact blk_old X.out | with_reducible exact drew_old X.out | with_reducible exact drew_old (blk_old X.out)); replace R6 := keepH hb12 (by first | with_reducible exact R6.out | with_reducible exact blk_old R6.out | with_reducible exact drew_old R6.out | with_reducible exact drew_old (blk_old R6.out)); replace Tp := keepH hb12 (by first | with_reducible exact Tp.out | with_reducible exact blk_old Tp.out | with_reducible exact drew_old Tp.out | with_reducible exact drew_old (blk_old Tp.out)); have kTp0 : w12.cell? ⟨w.heap.size + 1 + 1, 0, none⟩ = some (.int .i64 x.num) := cellH Tp 0; have kTp1 : w12.cell? ⟨w.heap.size + 1 + 1, 1, none⟩ = some (.int .i64 x.den) := cellH Tp 1; have kk0 : w12.cell? ⟨g, off + k * 4, none⟩ = some (.int .i64 b.1.num) := (cells4n (HL.out.below hw12 (Nat.le_refl _)) HBI.out); have kk1 : w12.cell? ⟨g, off + k * 4 + 1, none⟩ = some (.int .i64 b.1.den) := (cells4d (HL.out.below hw12 (Nat.le_refl _)) HBI.out); have lX := lt_of_H X; have nX : w.heap.size ≠ w12.heap.size := Nat.ne_of_lt lX; have lR6 := lt_of_H R6; have nR6 : w.heap.size + 1 ≠ w12.heap.size := Nat.ne_of_lt lR6; have lTp := lt_of_H Tp; have nTp : w.heap.size + 1 + 1 ≠ w12.heap.size := Nat.ne_of_lt lTp; have HP : Below w8.heap.size w8 w12 := stepH (by (repeat' (first | with_reducible exact Below.refl _ _ | with_reducible assumption | with_reducible refine Below.drew ?_ | with_reducible refine below_drewN ?_ _ | with_reducible refine Below.setCell ?_ ?_ _ | with_reducible refine Below.alloc ?_ ?_ _ | omega | (simp; done) | (simp; omega)))) hb12; have zP := HP.size))
            all_goals go_wp2_with fail
            all_goals go_meet
            all_goals exact ⟨_, rfl, ⟨_, rfl, hc3⟩, (by first | omega | (simp; omega)), (by (repeat' (first | with_reducible exact Below.refl _ _ | with_reducible assumption | with_reducible refine Below.drew ?_ | with_reducible refine below_drewN ?_ _ | with_reducible refine Below.setCell ?_ ?_ _ | with_reducible refine Below.alloc ?_ ?_ _ | omega | (simp; done) | (simp; omega)))), (by with_reducible first | exact X | exact setH2o X (by assumption) | exact Lib.hid (blk_old X.out)), (by with_reducible first | exact R6 | exact setH2o R6 (by assumption) | exact Lib.hid (blk_old R6.out)), (by with_reducible first | exact Tp | exact setH2o Tp (by assumption) | exact Lib.hid (blk_old Tp.out)), (by first | with_reducible exact setH2 NB.out | exact blk_new rfl)⟩
        case rest =>
          as_aux_lemma =>
            clear X R6 Tp
            obtain ⟨gDd, rfl, ⟨c9, rfl, hc9⟩, hgD, hw13, X, R6, Tp, Dd⟩ := hcut
            obtain ⟨w13, rfl⟩ : ∃ x : World, x = wc := ⟨_, rfl⟩
            have z13 := hw13.size
            have cX := cellH X
            obtain ⟨lX, lX1, lX2⟩ := ltH X
            have cR6 := cellH R6
            obtain ⟨lR6, lR61, lR62⟩ := ltH R6
            have fzR6 := frozH R6
            have cTp := cellH Tp
            obtain ⟨lTp, lTp1, lTp2⟩ := ltH Tp
            have fzTp := frozH Tp
            have cDd := cellH Dd
            obtain ⟨lDd, lDd1, lDd2⟩ := ltH Dd
            have hcn : (c9 != 0) = true := by rcases hc9 with rfl | rfl | rfl <;> decide
            have HC9 := Lib.hid hc9
            clear hc9
            go_wp2_with fail
            refine bodyPost_ret (v := .tuple #[.agg #[.int .i64 0, .int .i64 0], .int .i64 c9]) (by simp [results, Tryd.results36, go_sem, cR6]) rfl ⟨⟨_, _, _, rfl, (by rw [HTT.out]; unfold partR; rw [if_neg G1.out]; exact ⟨rfl, rfl, HC9.out⟩)⟩, by (repeat' (first | with_reducible exact Below.refl _ _ | with_reducible assumption | with_reducible refine Below.drew ?_ | with_reducible refine below_drewN ?_ _ | with_reducible refine Below.setCell ?_ ?_ _ | with_reducible refine Below.alloc ?_ ?_ _ | omega | (simp; done) | (simp; omega)))⟩
  · have HTT : Hid (topQ x (gs.drop (k + 1)) = x) := by show _ = _; rw [show k + 1 = gs.length by omega, List.drop_length]; rfl
    have GT2 := GX
    obtain ⟨g, off, hA, hgB, k0, k1, k2, k3⟩ := cells4 HL.out HBI.out
    subst hA
    clear k0 k1 k2 k3
    go_enter Tryd.func36, Tryd.ntmps36
    go_upto_region 4 with fail
    have hw1 : Below w.heap.size w (((w.alloc (.cells #[.int .i64 x.num, .int .i64 x.den] 24)).alloc (.cells #[.int .i64 0, .int .i64 0] 24)).alloc (.cells #[.int .i64 x.num, .int .i64 x.den] 24)) := by (repeat' (first | with_reducible exact Below.refl _ _ | with_reducible assumption | with_reducible refine Below.drew ?_ | with_reducible refine below_drewN ?_ _ | with_reducible refine Below.setCell ?_ ?_ _ | with_reducible refine Below.alloc ?_ ?_ _ | omega | (simp; done) | (simp; omega)))
    have X : Hid ((((w.alloc (.cells #[.int .i64 x.num, .int .i64 x.den] 24)).alloc (.cells #[.int .i64 0, .int .i64 0] 24)).alloc (.cells #[.int .i64 x.num, .int .i64 x.den] 24)).heap[w.heap.size]? = some (.cells #[.int .i64 x.num, .int .i64 x.den] 24 (0, 0))) := (blk_old (blk_old (blk_new rfl)))
    have R6 : Hid ((((w.alloc (.cells #[.int .i64 x.num, .int .i64 x.den] 24)).alloc (.cells #[.int .i64 0, .int .i64 0] 24)).alloc (.cells #[.int .i64 x.num, .int .i64 x.den] 24)).heap[w.heap.size + 1]? = some (.cells #[.int .i64 0, .int .i64 0] 24 (0, 0))) := (blk_old (blk_new (by simp)))
    have Tp : Hid ((((w.alloc (.cells #[.int .i64 x.num, .int .i64 x.den] 24)).alloc (.cells #[.int .i64 0, .int .i64 0] 24)).alloc (.cells #[.int .i64 x.num, .int .i64 x.den] 24)).heap[w.heap.size + 1 + 1]? = some (.cells #[.int .i64 x.num, .int .i64 x.den] 24 (0, 0))) := (blk_new (by simp))
    generalize (((w.alloc (.cells #[.int .i64 x.num, .int .i64 x.den] 24)).alloc (.cells #[.int .i64 0, .int .i64 0] 24)).alloc (.cells #[.int .i64 x.num, .int .i64 x.den] 24)) = w1 at *
    have z1 := hw1.size
    have cX := cellH X
    obtain ⟨lX, lX1, lX2⟩ := ltH X
    have cR6 := cellH R6
    obtain ⟨lR6, lR61, lR62⟩ := ltH R6
    have fzR6 := frozH R6
    have cTp := cellH Tp
    obtain ⟨lTp, lTp1, lTp2⟩ := ltH Tp
    have fzTp := frozH Tp
    clear cX lX lX1 lX2 cR6 lR6 lR61 lR62 fzR6 cTp lTp lTp1 lTp2 fzTp
    by_cases g1 : Good (x - b.1)
    · have G1 := Lib.hid g1
      clear g1
      have lr6 : w.heap.size + 1 < w1.heap.size := lt_of_H R6
      go_upto_region 4 with fail
      go_cut [9, 10] (fun s9 s10 wx => ∃ g : Nat, s9 = .pointer (some ⟨g, 0, none⟩) ∧ s10 = .int .i64 0 ∧ w1.heap.size ≤ g ∧ Below w.heap.size w wx ∧ Hid (wx.heap[w.heap.size]? = some (.cells #[.int .i64 x.num, .int .i64 x.den] 24 (0, 0))) ∧ Hid (wx.heap[w.heap.size + 1]? = some (.cells #[.int .i64 0, .int .i64 0] 24 (0, 0))) ∧ Hid (wx.heap[w.heap.size + 1 + 1]? = some (.cells #[.int .i64 x.num, .int .i64 x.den] 24 (0, 0))) ∧ Hid (wx.heap[g]? = some (.cells #[.int .i64 (x - b.1).num, .int .i64 (x - b.1).den] 24 (0, 0))))
      case first =>
        as_aux_lemma =>
          have hw2 := hw1
          have kTp0 : w1.cell? ⟨w.heap.size + 1 + 1, 0, none⟩ = some (.int .i64 x.num) := cellH Tp 0
          have kTp1 : w1.cell? ⟨w.heap.size + 1 + 1, 1, none⟩ = some (.int .i64 x.den) := cellH Tp 1
          have kk0 : w1.cell? ⟨g, off + k * 4, none⟩ = some (.int .i64 b.1.num) := (cells4n (HL.out.below hw2 (Nat.le_refl _)) HBI.out)
          have kk1 : w1.cell? ⟨g, off + k * 4 + 1, none⟩ = some (.int .i64 b.1.den) := (cells4d (HL.out.below hw2 (Nat.le_refl _)) HBI.out)
          have lX := lt_of_H X
          have nX : w.heap.size ≠ w1.heap.size := Nat.ne_of_lt lX
          have lR6 := lt_of_H R6
          have nR6 : w.heap.size + 1 ≠ w1.heap.size := Nat.ne_of_lt lR6
          have lTp := lt_of_H Tp
          have nTp : w.heap.size + 1 + 1 ≠ w1.heap.size := Nat.ne_of_lt lTp
          go_region_held3 (fun w' => w'.cell? ⟨w.heap.size + 1 + 1, 0, none⟩ = some (.int .i64 x.num) ∧ w'.cell? ⟨w.heap.size + 1 + 1, 1, none⟩ = some (.int .i64 x.den) ∧ w'.cell? ⟨g, off + k * 4, none⟩ = some (.int .i64 b.1.num) ∧ w'.cell? ⟨g, off + k * 4 + 1, none⟩ = some (.int .i64 b.1.den)) (first | with_reducible exact ⟨kTp0, kTp1, kk0, kk1⟩ | with_reducible exact ⟨cell_set (cell_set kTp0 (by first | assumption | (dsimp only; assumption) | (dsimp only; omega))) (by first | assumption | (dsimp only; assumption) | (dsimp only; omega)), cell_set (cell_set kTp1 (by first | assumption | (dsimp only; assumption) | (dsimp only; omega))) (by first | assumption | (dsimp only; assumption) | (dsimp only; omega)), cell_set (cell_set kk0 (by first | assumption | (dsimp only; assumption) | (dsimp only; omega))) (by first | assumption | (dsimp only; assumption) | (dsimp only; omega)), cell_set (cell_set kk1 (by first | assumption | (dsimp only; assumption) | (dsimp only; omega))) (by first | assumption | (dsimp only; assumption) | (dsimp only; omega))⟩ | go_keep)
            (first | (go_at_call 55; refine (refSub_any x b.1 _ GT2.out GB.out.1).mono ?_; rintro e w2 ⟨⟨n', d', c', rfl, hr⟩, hb2⟩; obtain ⟨rfl, rfl, rfl⟩ := resC_ok hr (goodR_ok (decide_eq_true G1.out)); have hw2 : Below w.heap.size w w2 := stepH (by (repeat' (first | with_reducible exact Below.refl _ _ | with_reducible assumption | with_reducible refine Below.drew ?_ | with_reducible refine below_drewN ?_ _ | with_reducible refine Below.setCell ?_ ?_ _ | with_reducible refine Below.alloc ?_ ?_ _ | omega | (simp; done) | (simp; omega)))) hb2; have zw2 := hw2.size; (try (have NB := keepH hb2 (by with_reducible first | exact blk_new rfl | exact drew_old (blk_new rfl) | exact NB.out | exact drew_old NB.out); have cNB := cellH NB; have fNB := frozH NB)); replace X := keepH hb2 (by first | with_reducible exact X.out | with_reducible exact blk_old X.out | with_reducible exact drew_old X.out | with_reducible exact drew_old (blk_old X.out)); replace R6 := keepH hb2 (by first | with_reducible exact R6.out | with_reducible exact blk_old R6.out | with_reducible exact drew_old R6.out | with_reducible exact drew_old (blk_old R6.out)); replace Tp := keepH hb2 (by first | with_reducible exact Tp.out | with_reducible exact blk_old Tp.out | with_reducible exact drew_old Tp.out | with_reducible exact drew_old (blk_old Tp.out)); have kTp0 : w2.cell? ⟨w.heap.size + 1 + 1, 0, none⟩ = some (.int .i64 x.num) := cellH Tp 0; have kTp1 : w2.cell? ⟨w.heap.size + 1 + 1, 1, none⟩ = some (.int .i64 x.den) := cellH Tp 1; have kk0 : w2.cell? ⟨g, off + k * 4, none⟩ = some (.int .i64 b.1.num) := (cells4n (HL.out.below hw2 (Nat.le_refl _)) HBI.out); have kk1 : w2.cell? ⟨g, off + k * 4 + 1, none⟩ = some (.int .i64 b.1.den) := (cells4d (HL.out.below hw2 (Nat.le_refl _)) HBI.out); have lX := lt_of_H X; have nX : w.heap.size ≠ w2.heap.size := Nat.ne_of_lt lX; have lR6 := lt_of_H R6; have nR6 : w.heap.size + 1 ≠ w2.heap.size := Nat.ne_of_lt lR6; have lTp := lt_of_H Tp; have nTp : w.heap.size + 1 + 1 ≠ w2.heap.size := Nat.ne_of_lt lTp; have HP : Below w1.heap.size w1 w2 := stepH (by (repeat' (first | with_reducible exact Below.refl _ _ | with_reducible assumption | with_reducible refine Below.drew ?_ | with_reducible refine below_drewN ?_ _ | with_reducible refine Below.setCell ?_ ?_ _ | with_reducible refine Below.alloc ?_ ?_ _ | omega | (simp; done) | (simp; omega)))) hb2; have zP := HP.size))
          all_goals go_wp2_with fail
          all_goals go_meet
          all_goals exact ⟨_, rfl, rfl, (by first | omega | (simp; omega)), (by (repeat' (first | with_reducible exact Below.refl _ _ | with_reducible assumption | with_reducible refine Below.drew ?_ | with_reducible refine below_drewN ?_ _ | with_reducible refine Below.setCell ?_ ?_ _ | with_reducible refine Below.alloc ?_ ?_ _ | omega | (simp; done) | (simp; omega)))), (by with_reducible first | exact X | exact setH2o X (by assumption) | exact Lib.hid (blk_old X.out)), (by with_reducible first | exact R6 | exact setH2o R6 (by assumption) | exact Lib.hid (blk_old R6.out)), (by with_reducible first | exact Tp | exact setH2o Tp (by assumption) | exact Lib.hid (blk_old Tp.out)), (by first | with_reducible exact setH2 NB.out | exact blk_new rfl)⟩
      case rest =>
        as_aux_lemma =>
          clear X R6 Tp
          obtain ⟨gDd, rfl, rfl, hgD, hw3, X, R6, Tp, Dd⟩ := hcut
          obtain ⟨w3, rfl⟩ : ∃ x : World, x = wc := ⟨_, rfl⟩
          have z3 := hw3.size
          have cX := cellH X
          obtain ⟨lX, lX1, lX2⟩ := ltH X
          have cR6 := cellH R6
          obtain ⟨lR6, lR61, lR62⟩ := ltH R6
          have fzR6 := frozH R6
          have cTp := cellH Tp
          obtain ⟨lTp, lTp1, lTp2⟩ := ltH Tp
          have fzTp := frozH Tp
          have cDd := cellH Dd
          obtain ⟨lDd, lDd1, lDd2⟩ := ltH Dd
          go_upto_region 7 with fail
          clear cX lX lX1 lX2 cR6 lR6 lR61 lR62 fzR6 cTp lTp lTp1 lTp2 fzTp cDd lDd lDd1 lDd2
          have k2 : w3.cell? ⟨g, off + k * 4 + 2, none⟩ = some (.int .i64 b.2.num) := cells4r (HL.out.below hw3 (Nat.le_refl _)) HBI.out
          have k3 : w3.cell? ⟨g, off + k * 4 + 3, none⟩ = some (.int .i64 b.2.den) := cells4s (HL.out.below hw3 (Nat.le_refl _)) HBI.out
          have d0 : w3.cell? ⟨gDd, 0, none⟩ = some (.int .i64 (x - b.1).num) := cellH Dd 0
          have d1 : w3.cell? ⟨gDd, 1, none⟩ = some (.int .i64 (x - b.1).den) := cellH Dd 1
          have n1 : g ≠ w.heap.size + 1 := by omega
          have n2 : gDd ≠ w.heap.size + 1 := by omega
          go_region_held3 (fun w' => w'.cell? ⟨g, off + k * 4 + 2, none⟩ = some (.int .i64 b.2.num) ∧ w'.cell? ⟨g, off + k * 4 + 3, none⟩ = some (.int .i64 b.2.den) ∧ w'.cell? ⟨gDd, 0, none⟩ = some (.int .i64 (x - b.1).num) ∧ w'.cell? ⟨gDd, 1, none⟩ = some (.int .i64 (x - b.1).den)) (first | with_reducible exact ⟨k2, k3, d0, d1⟩ | with_reducible exact ⟨cell_set (cell_set k2 (by first | assumption | (dsimp only; assumption) | (dsimp only; omega))) (by first | assumption | (dsimp only; assumption) | (dsimp only; omega)), cell_set (cell_set k3 (by first | assumption | (dsimp only; assumption) | (dsimp only; omega))) (by first | assumption | (dsimp only; assumption) | (dsimp only; omega)), cell_set (cell_set d0 (by first | assumption | (dsimp only; assumption) | (dsimp only; omega))) (by first | assumption | (dsimp only; assumption) | (dsimp only; omega)), cell_set (cell_set d1 (by first | assumption | (dsimp only; assumption) | (dsimp only; omega))) (by first | assumption | (dsimp only; assumption) | (dsimp only; omega))⟩ | go_keep)
            (first | (go_at_call 40; refine (refMul_any b.2 (x - b.1) _ GB.out.2 G1.out).mono ?_; rintro e w4 ⟨⟨n', d', c', rfl, hr⟩, hb4⟩; have hw4 : Below w.heap.size w w4 := stepH (by (repeat' (first | with_reducible exact Below.refl _ _ | with_reducible assumption | with_reducible refine Below.drew ?_ | with_reducible refine below_drewN ?_ _ | with_reducible refine Below.setCell ?_ ?_ _ | with_reducible refine Below.alloc ?_ ?_ _ | omega | (simp; done) | (simp; omega)))) hb4; replace R6 := keepH hb4 (by exact R6.out); have cR6 := cellH R6; have fR6 := frozH R6; have lR6 := lt_of_H R6; replace k2 := cellOf hb4 (by first | exact k2 | exact cell_drew k2); replace k3 := cellOf hb4 (by first | exact k3 | exact cell_drew k3); replace d0 := cellOf hb4 (by first | exact d0 | exact cell_drew d0); replace d1 := cellOf hb4 (by first | exact d1 | exact cell_drew d1)))
          all_goals go_wp2_with fail
          all_goals refine bodyPost_ret (v := .tuple #[.agg #[.int .i64 n', .int .i64 d'], .int .i64 c']) (by simp [results, Tryd.results36, go_sem, cR6]) rfl ⟨⟨_, _, _, rfl, (by rw [HTT.out]; unfold partR; rw [if_pos G1.out]; exact hr)⟩, by (repeat' (first | with_reducible exact Below.refl _ _ | with_reducible assumption | with_reducible refine Below.drew ?_ | with_reducible refine below_drewN ?_ _ | with_reducible refine Below.setCell ?_ ?_ _ | with_reducible refine Below.alloc ?_ ?_ _ | omega | (simp; done) | (simp; omega)))⟩
    · have G1 := Lib.hid g1
      clear g1
      have lr6 : w.heap.size + 1 < w1.heap.size := lt_of_H R6
      go_upto_region 4 with fail
      go_cut [9, 10] (fun s9 s10 wx => ∃ g : Nat, s9 = .pointer (some ⟨g, 0, none⟩) ∧ (∃ c9 : Int, s10 = .int .i64 c9 ∧ (c9 = 101 ∨ c9 = 102 ∨ c9 = 103)) ∧ w1.heap.size ≤ g ∧ Below w.heap.size w wx ∧ Hid (wx.heap[w.heap.size]? = some (.cells #[.int .i64 x.num, .int .i64 x.den] 24 (0, 0))) ∧ Hid (wx.heap[w.heap.size + 1]? = some (.cells #[.int .i64 0, .int .i64 0] 24 (0, 0))) ∧ Hid (wx.heap[w.heap.size + 1 + 1]? = some (.cells #[.int .i64 x.num, .int .i64 x.den] 24 (0, 0))) ∧ Hid (wx.heap[g]? = some (.cells #[.int .i64 0, .int .i64 0] 24 (0, 0))))
      case first =>
        as_aux_lemma =>
          have hw5 := hw1
          have kTp0 : w1.cell? ⟨w.heap.size + 1 + 1, 0, none⟩ = some (.int .i64 x.num) := cellH Tp 0
          have kTp1 : w1.cell? ⟨w.heap.size + 1 + 1, 1, none⟩ = some (.int .i64 x.den) := cellH Tp 1
          have kk0 : w1.cell? ⟨g, off + k * 4, none⟩ = some (.int .i64 b.1.num) := (cells4n (HL.out.below hw5 (Nat.le_refl _)) HBI.out)
          have kk1 : w1.cell? ⟨g, off + k * 4 + 1, none⟩ = some (.int .i64 b.1.den) := (cells4d (HL.out.below hw5 (Nat.le_refl _)) HBI.out)
          have lX := lt_of_H X
          have nX : w.heap.size ≠ w1.heap.size := Nat.ne_of_lt lX
          have lR6 := lt_of_H R6
          have nR6 : w.heap.size + 1 ≠ w1.heap.size := Nat.ne_of_lt lR6
          have lTp := lt_of_H Tp
          have nTp : w.heap.size + 1 + 1 ≠ w1.heap.size := Nat.ne_of_lt lTp
          go_region_held3 (fun w' => w'.cell? ⟨w.heap.size + 1 + 1, 0, none⟩ = some (.int .i64 x.num) ∧ w'.cell? ⟨w.heap.size + 1 + 1, 1, none⟩ = some (.int .i64 x.den) ∧ w'.cell? ⟨g, off + k * 4, none⟩ = some (.int .i64 b.1.num) ∧ w'.cell? ⟨g, off + k * 4 + 1, none⟩ = some (.int .i64 b.1.den)) (first | with_reducible exact ⟨kTp0, kTp1, kk0, kk1⟩ | with_reducible exact ⟨cell_set (cell_set kTp0 (by first | assumption | (dsimp only; assumption) | (dsimp only; omega))) (by first | assumption | (dsimp only; assumption) | (dsimp only; omega)), cell_set (cell_set kTp1 (by first | assumption | (dsimp only; assumption) | (dsimp only; omega))) (by first | assumption | (dsimp only; assumption) | (dsimp only; omega)), cell_set (cell_set kk0 (by first | assumption | (dsimp only; assumption) | (dsimp only; omega))) (by first | assumption | (dsimp only; assumption) | (dsimp only; omega)), cell_set (cell_set kk1 (by first | assumption | (dsimp only; assumption) | (dsimp only; omega))) (by first | assumption | (dsimp only; assumption) | (dsimp only; omega))⟩ | go_keep)
            (first | (go_at_call 55; refine (refSub_any x b.1 _ GT2.out GB.out.1).mono ?_; rintro e w5 ⟨⟨n', d', c', rfl, hr⟩, hb5⟩; obtain ⟨rfl, rfl, hc3⟩ := resC_no hr (goodR_no (decide_eq_false G1.out)); have hw5 : Below w.heap.size w w5 := stepH (by (repeat' (first | with_reducible exact Below.refl _ _ | with_reducible assumption | with_reducible refine Below.drew ?_ | with_reducible refine below_drewN ?_ _ | with_reducible refine Below.setCell ?_ ?_ _ | with_reducible refine Below.alloc ?_ ?_ _ | omega | (simp; done) | (simp; omega)))) hb5; have zw5 := hw5.size; (try (have NB := keepH hb5 (by with_reducible first | exact blk_new rfl | exact drew_old (blk_new rfl) | exact NB.out | exact drew_old NB.out); have cNB := cellH NB; have fNB := frozH NB)); replace X := keepH hb5 (by first | with_reducible exact X.out | with_reducible exact blk_old X.out | with_reducible exact drew_old X.out | with_reducible exact drew_old (blk_old X.out)); replace R6 := keepH hb5 (by first | with_reducible exact R6.out | with_reducible exact blk_old R6.out | with_reducible exact drew_old R6.out | with_reducible exact drew_old (blk_old R6.out)); replace Tp := keepH hb5 (by first | with_reducible exact Tp.out | with_reducible exact blk_old Tp.out | with_reducible exact drew_old Tp.out | with_reducible exact drew_old (blk_old Tp.out)); have kTp0 : w5.cell? ⟨w.heap.size + 1 + 1, 0, none⟩ = some (.int .i64 x.num) := cellH Tp 0; have kTp1 : w5.cell? ⟨w.heap.size + 1 + 1, 1, none⟩ = some (.int .i64 x.den) := cellH Tp 1; have kk0 : w5.cell? ⟨g, off + k * 4, none⟩ = some (.int .i64 b.1.num) := (cells4n (HL.out.below hw5 (Nat.le_refl _)) HBI.out); have kk1 : w5.cell? ⟨g, off + k * 4 + 1, none⟩ = some (.int .i64 b.1.den) := (cells4d (HL.out.below hw5 (Nat.le_refl _)) HBI.out); have lX := lt_of_H X; have nX : w.heap.size ≠ w5.heap.size := Nat.ne_of_lt lX; have lR6 := lt_of_H R6; have nR6 : w.heap.size + 1 ≠ w5.heap.size := Nat.ne_of_lt lR6; have lTp := lt_of_H Tp; have nTp : w.heap.size + 1 + 1 ≠ w5.heap.size := Nat.ne_of_lt lTp; have HP : Below w1.heap.size w1 w5 := stepH (by (repeat' (first | with_reducible exact Below.refl _ _ | with_reducible assumption | with_reducible refine Below.drew ?_ | with_reducible refine below_drewN ?_ _ | with_reducible refine Below.setCell ?_ ?_ _ | with_reducible refine Below.alloc ?_ ?_ _ | omega | (simp; done) | (simp; omega)))) hb5; have zP := HP.size))
          all_goals go_wp2_with fail
          all_goals go_meet
          all_goals exact ⟨_, rfl, ⟨_, rfl, hc3⟩, (by first | omega | (simp; omega)), (by (repeat' (first | with_reducible exact Below.refl _ _ | with_reducible assumption | with_reducible refine Below.drew ?_ | with_reducible refine below_drewN ?_ _ | with_reducible refine Below.setCell ?_ ?_ _ | with_reducible refine Below.alloc ?_ ?_ _ | omega | (simp; done) | (simp; omega)))), (by with_reducible first | exact X | exact setH2o X (by assumption) | exact Lib.hid (blk_old X.out)), (by with_reducible first | exact R6 | exact setH2o R6 (by assumption) | exact Lib.hid (blk_old R6.out)), (by with_reducible first | exact Tp | exact setH2o Tp (by assumption) | exact Lib.hid (blk_old Tp.out)), (by first | with_reducible exact setH2 NB.out | exact blk_new rfl)⟩
      case rest =>
        as_aux_lemma =>
          clear X R6 Tp
          obtain ⟨gDd, rfl, ⟨c9, rfl, hc9⟩, hgD, hw6, X, R6, Tp, Dd⟩ := hcut
          obtain ⟨w6, rfl⟩ : ∃ x : World, x = wc := ⟨_, rfl⟩
          have z6 := hw6.size
          have cX := cellH X
          obtain ⟨lX, lX1, lX2⟩ := ltH X
          have cR6 := cellH R6
          obtain ⟨lR6, lR61, lR62⟩ := ltH R6
          have fzR6 := frozH R6
          have cTp := cellH Tp
          obtain ⟨lTp, lTp1, lTp2⟩ := ltH Tp
          have fzTp := frozH Tp
          have cDd := cellH Dd
          obtain ⟨lDd, lDd1, lDd2⟩ := ltH Dd
          have hcn : (c9 != 0) = true := by rcases hc9 with rfl | rfl | rfl <;> decide
          have HC9 := Lib.hid hc9
          clear hc9
          go_wp2_with fail
          refine bodyPost_ret (v := .tuple #[.agg #[.int .i64 0, .int .i64 0], .int .i64 c9]) (by simp [results, Tryd.results36, go_sem, cR6]) rfl ⟨⟨_, _, _, rfl, (by rw [HTT.out]; unfold partR; rw [if_neg G1.out]; exact ⟨rfl, rfl, HC9.out⟩)⟩, by (repeat' (first | with_reducible exact Below.refl _ _ | with_reducible assumption | with_reducible refine Below.drew ?_ | with_reducible refine below_drewN ?_ _ | with_reducible refine Below.setCell ?_ ?_ _ | with_reducible refine Below.alloc ?_ ?_ _ | omega | (simp; done) | (simp; omega)))⟩

end Go.Proofs.YtmankldedhgdiaaDoor
