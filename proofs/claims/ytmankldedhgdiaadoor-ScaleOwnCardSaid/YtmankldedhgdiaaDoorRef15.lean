/- The document's own scales: Valid, ask, above, part, At: walks. -/
import Derived.Test.YtmankldedhgdiaaDoorScaleR
import Derived.Test.YtmankldedhgdiaaDoorRefN
namespace Go.Proofs.YtmankldedhgdiaaDoor
open Go.RowKit

/-- the code of a fault -/
def codeE : Option Nat → Int
  | none => 0
  | some g => if g = 2 then 113 else if g = 3 then 103 else 110

theorem codeE_is {r : Option Nat} {c : Int} (h : codeE r = c) : Ending.returned (.int .i64 c) = .returned (.int .i64 (codeE r)) := by rw [h]

set_option maxRecDepth 10000 in
set_option maxHeartbeats 4000000 in
theorem refValid15_any (s : List BI) (A : Option Addr) (c : Nat) (w : World) (hl : RowAt encR 4 w w.heap.size A s) (hm : s.length ≤ 9223372036854775807) (hI : ∀ b ∈ s, In4 b) :
    Calls Tryd.prog 5 #[.slice A s.length c] w fun e w' => e = .returned (.int .i64 (codeE (scaleE s))) ∧ Below w.heap.size w w' := by
  by_cases h32 : 32 < s.length
  · have HR := Lib.hid (codeE_is (r := scaleE s) (c := 113) (by rw [scaleE_many h32]; rfl))
    clear hI hl
    go_enter Tryd.func5, Tryd.ntmps5
    go_wp2_with fail
    go_ret
    exact ⟨HR.out, by (repeat' (first | with_reducible exact Below.refl _ _ | with_reducible assumption | with_reducible refine Below.drew ?_ | with_reducible refine below_drewN ?_ _ | with_reducible refine Below.setCell ?_ ?_ _ | with_reducible refine Below.alloc ?_ ?_ _ | omega | (simp; done) | (simp; omega)))⟩
  have HL := Lib.hid hl
  have HI := Lib.hid hI
  have H32 := Lib.hid h32
  have h32' : s.length ≤ 32 := by omega
  clear hl hI h32
  go_enter Tryd.func5, Tryd.ntmps5
  go_wp2_with fail
  go_loopw [3] (fun i wr => ∃ k : Nat, k ≤ s.length ∧ i = .int .i64 k ∧ Hid (∀ j b, j < k → s[j]? = some b → vB b = true) ∧ Below w.heap.size w wr) (fun i _ => s.length - (intOf i).toNat)
  case atStart => exact ⟨0, Nat.zero_le _, rfl, (fun j b h => by omega), by (repeat' (first | with_reducible exact Below.refl _ _ | with_reducible assumption | with_reducible refine Below.drew ?_ | with_reducible refine below_drewN ?_ _ | with_reducible refine Below.setCell ?_ ?_ _ | with_reducible refine Below.alloc ?_ ?_ _ | omega | (simp; done) | (simp; omega)))⟩
  case round =>
    obtain ⟨k, hk, rfl, hv, hw0⟩ := hrel
    have z0 := hw0.size
    by_cases hlt : k < s.length
    · obtain ⟨⟨n1, d1, n2, d2⟩, hb⟩ : ∃ b, s[k]? = some b := ⟨s[k], List.getElem?_eq_getElem hlt⟩
      obtain ⟨g, off, rfl, hg, k0, k1, k2, k3⟩ := cells4 (HL.out.below hw0 (Nat.le_refl _)) hb
      obtain ⟨⟨a1, a2⟩, ⟨a3, a4⟩, ⟨a5, a6⟩, ⟨a7, a8⟩⟩ := HI.out _ (List.mem_of_getElem? hb)
      replace k0 : wr.cell? ⟨g, off + k * 4, none⟩ = some (.int .i64 n1) := k0
      replace k1 : wr.cell? ⟨g, off + k * 4 + 1, none⟩ = some (.int .i64 d1) := k1
      replace k2 : wr.cell? ⟨g, off + k * 4 + 2, none⟩ = some (.int .i64 n2) := k2
      replace k3 : wr.cell? ⟨g, off + k * 4 + 3, none⟩ = some (.int .i64 d2) := k3
      dsimp only at a1 a2 a3 a4 a5 a6 a7 a8
      have HB := Lib.hid hb
      clear hb
      have i1 : (k : Int) < (s.length : Int) := by omega
      cases hv1 : validB n1 d1
      · have HV := Lib.hid hv1
        clear hv1
        go_wp2_with fail
        refine (refv_is n1 d1 false _ HV.out (by omega) (by omega) (by omega) (by omega)).mono ?_
        rintro e w1 ⟨rfl, hb1⟩
        have hw1 : Below w.heap.size w w1 := stepH (by (repeat' (first | with_reducible exact Below.refl _ _ | with_reducible assumption | with_reducible refine Below.drew ?_ | with_reducible refine below_drewN ?_ _ | with_reducible refine Below.setCell ?_ ?_ _ | with_reducible refine Below.alloc ?_ ?_ _ | omega | (simp; done) | (simp; omega)))) hb1
        have z1 := hw1.size
        clear hb1 hw0 z0
        go_wp2_with fail
        go_ret
        exact ⟨codeE_is (by rw [scaleE_frac H32.out HB.out (by unfold vB; rw [HV.out]; rfl)]; rfl), by (repeat' (first | with_reducible exact Below.refl _ _ | with_reducible assumption | with_reducible refine Below.drew ?_ | with_reducible refine below_drewN ?_ _ | with_reducible refine Below.setCell ?_ ?_ _ | with_reducible refine Below.alloc ?_ ?_ _ | omega | (simp; done) | (simp; omega)))⟩
      · have HV := Lib.hid hv1
        clear hv1
        cases hv2 : validB n2 d2
        · have HV2 := Lib.hid hv2
          clear hv2
          go_wp2_with fail
          refine (refv_is n1 d1 true _ HV.out (by omega) (by omega) (by omega) (by omega)).mono ?_
          rintro e w1 ⟨rfl, hb1⟩
          have hw1 : Below w.heap.size w w1 := stepH (by (repeat' (first | with_reducible exact Below.refl _ _ | with_reducible assumption | with_reducible refine Below.drew ?_ | with_reducible refine below_drewN ?_ _ | with_reducible refine Below.setCell ?_ ?_ _ | with_reducible refine Below.alloc ?_ ?_ _ | omega | (simp; done) | (simp; omega)))) hb1
          have z1 := hw1.size
          have k2 := cellOf hb1 k2
          have k3 := cellOf hb1 k3
          go_wp2_with fail
          refine (refv_is n2 d2 false _ HV2.out (by omega) (by omega) (by omega) (by omega)).mono ?_
          rintro e w2 ⟨rfl, hb2⟩
          have hw2 : Below w.heap.size w w2 := stepH (by (repeat' (first | with_reducible exact Below.refl _ _ | with_reducible assumption | with_reducible refine Below.drew ?_ | with_reducible refine below_drewN ?_ _ | with_reducible refine Below.setCell ?_ ?_ _ | with_reducible refine Below.alloc ?_ ?_ _ | omega | (simp; done) | (simp; omega)))) hb2
          have z2 := hw2.size
          clear hb2 hw1 z1
          go_wp2_with fail
          go_ret
          exact ⟨codeE_is (by rw [scaleE_frac H32.out HB.out (by unfold vB; rw [HV2.out, Bool.and_false])]; rfl), by (repeat' (first | with_reducible exact Below.refl _ _ | with_reducible assumption | with_reducible refine Below.drew ?_ | with_reducible refine below_drewN ?_ _ | with_reducible refine Below.setCell ?_ ?_ _ | with_reducible refine Below.alloc ?_ ?_ _ | omega | (simp; done) | (simp; omega)))⟩
        · have HV2 := Lib.hid hv2
          clear hv2
          go_wp2_with fail
          refine (refv_is n1 d1 true _ HV.out (by omega) (by omega) (by omega) (by omega)).mono ?_
          rintro e w1 ⟨rfl, hb1⟩
          have hw1 : Below w.heap.size w w1 := stepH (by (repeat' (first | with_reducible exact Below.refl _ _ | with_reducible assumption | with_reducible refine Below.drew ?_ | with_reducible refine below_drewN ?_ _ | with_reducible refine Below.setCell ?_ ?_ _ | with_reducible refine Below.alloc ?_ ?_ _ | omega | (simp; done) | (simp; omega)))) hb1
          have z1 := hw1.size
          have k2 := cellOf hb1 k2
          have k3 := cellOf hb1 k3
          go_wp2_with fail
          refine (refv_is n2 d2 true _ HV2.out (by omega) (by omega) (by omega) (by omega)).mono ?_
          rintro e w2 ⟨rfl, hb2⟩
          have hw2 : Below w.heap.size w w2 := stepH (by (repeat' (first | with_reducible exact Below.refl _ _ | with_reducible assumption | with_reducible refine Below.drew ?_ | with_reducible refine below_drewN ?_ _ | with_reducible refine Below.setCell ?_ ?_ _ | with_reducible refine Below.alloc ?_ ?_ _ | omega | (simp; done) | (simp; omega)))) hb2
          have z2 := hw2.size
          clear hb2 hw1 z1
          go_wp2_with fail
          go_roundw
          case rel =>
            refine ⟨k + 1, by omega, by go_num, fun j b hj hb => ?_, by (repeat' (first | with_reducible exact Below.refl _ _ | with_reducible assumption | with_reducible refine Below.drew ?_ | with_reducible refine below_drewN ?_ _ | with_reducible refine Below.setCell ?_ ?_ _ | with_reducible refine Below.alloc ?_ ?_ _ | omega | (simp; done) | (simp; omega)))⟩
            rcases Nat.lt_or_ge j k with h | h
            · exact hv.out j b h hb
            · obtain rfl : j = k := by omega
              have hb2 := HB.out
              rw [hb] at hb2
              cases hb2
              show (validB _ _ && validB _ _) = true
              rw [HV.out, HV2.out]; rfl
          case measure => simp [intOf]; omega
    · obtain ⟨gs, hgs, hgood⟩ := all_bR (l := s) (fun x hx => by obtain ⟨j, hj, e⟩ := List.mem_iff_getElem.1 hx; exact hv.out j x (by omega) (by rw [← e]; exact List.getElem?_eq_getElem hj))
      have HG := Lib.hid hgood
      have hge : s.length ≤ k := by omega
      clear hv hlt hgood
      subst hgs
      rw [List.length_map] at *
      obtain ⟨wo, rfl⟩ : ∃ wo : World, wo = wr := ⟨_, rfl⟩
      have hdk : decide (k < gs.length) = false := decide_eq_false (by omega)
      go_wp2_with fail
      go_loopw [4] (fun i wr => ∃ k : Nat, (k = 0 ∨ k + 1 ≤ gs.length) ∧ i = .int .i64 (k + 1 : Int) ∧ Hid (riN ((gs.map bR).map frm) k = true) ∧ Below w.heap.size w wr) (fun i _ => gs.length - (intOf i).toNat)
      case atStart => exact ⟨0, .inl rfl, rfl, rfl, hw0⟩
      case round =>
        obtain ⟨k2, hk2, rfl, hri, hw1⟩ := hrel
        have z1 := hw1.size
        by_cases hlt : k2 + 1 < gs.length
        · obtain ⟨x0, hx0⟩ : ∃ x, gs[k2]? = some x := ⟨gs[k2], List.getElem?_eq_getElem (by omega)⟩
          obtain ⟨x1, hx1⟩ : ∃ x, gs[k2 + 1]? = some x := ⟨gs[k2 + 1], List.getElem?_eq_getElem hlt⟩
          obtain ⟨g, off, hA, hg, k0, k1, _, _⟩ := cells4 (HL.out.below hw1 (Nat.le_refl _)) (show (gs.map bR)[k2]? = some (bR x0) by rw [List.getElem?_map, hx0]; rfl)
          obtain ⟨g', off', hA', _, j0, j1, _, _⟩ := cells4 (HL.out.below hw1 (Nat.le_refl _)) (show (gs.map bR)[k2 + 1]? = some (bR x1) by rw [List.getElem?_map, hx1]; rfl)
          subst hA
          injection hA' with hA'
          injection hA' with e1 e2
          subst e1 e2
          replace k0 : wr.cell? ⟨g, off + k2 * 4, none⟩ = some (.int .i64 x0.1.num) := k0
          replace k1 : wr.cell? ⟨g, off + k2 * 4 + 1, none⟩ = some (.int .i64 x0.1.den) := k1
          replace j0 : wr.cell? ⟨g, off + (k2 + 1) * 4, none⟩ = some (.int .i64 x1.1.num) := j0
          replace j1 : wr.cell? ⟨g, off + (k2 + 1) * 4 + 1, none⟩ = some (.int .i64 x1.1.den) := j1
          have G0 := Lib.hid (HG.out x0 (List.mem_of_getElem? hx0)).1
          have G1 := Lib.hid (HG.out x1 (List.mem_of_getElem? hx1)).1
          have HST := Lib.hid (riN_step hri.out hx0 hx1)
          have s3 : (0 : Int) ≤ (k2 : Int) + 1 := by omega
          have s4 : (k2 : Int) + 1 < (gs.length : Int) := by omega
          have s5 : ((k2 : Int) + 1).toNat = k2 + 1 := by omega
          have s6 : (k2 : Int) < (gs.length : Int) := by omega
          have s2 : IntKind.i64.wrap ((k2 : Int)) = (k2 : Int) := IntWalk.i64_in _ (by omega)
          have s1 : IntKind.i64.wrap ((k2 : Int) + 1 - 1) = (k2 : Int) := by rw [show (k2 : Int) + 1 - 1 = k2 by omega]; exact s2
          clear hx0 hx1
          obtain ⟨cc, hcc⟩ : ∃ cc, cmpQ x0.1 x1.1 = cc := ⟨_, rfl⟩
          have HCC := Lib.hid hcc
          have hor : (x0.1 < x1.1 ∧ cc = -1) ∨ (¬ x0.1 < x1.1 ∧ 0 ≤ cc) := by
            by_cases h : x0.1 < x1.1
            · exact .inl ⟨h, by rw [← hcc]; exact cmp_lt h⟩
            · exact .inr ⟨h, by rw [← hcc]; exact cmp_ge h⟩
          clear hcc
          go_wp2_with fail
          go_region_held3 (fun w' => w'.cell? ⟨g, off + k2 * 4, none⟩ = some (.int .i64 x0.1.num) ∧ w'.cell? ⟨g, off + k2 * 4 + 1, none⟩ = some (.int .i64 x0.1.den) ∧ w'.cell? ⟨g, off + (k2 + 1) * 4, none⟩ = some (.int .i64 x1.1.num) ∧ w'.cell? ⟨g, off + (k2 + 1) * 4 + 1, none⟩ = some (.int .i64 x1.1.den)) (first | with_reducible exact ⟨k0, k1, j0, j1⟩ | go_keep)
            (first | (go_at_call 25; refine (refCmp_is _ _ cc _ G0.out G1.out HCC.out).mono ?_; rintro e w9 ⟨rfl, hb9⟩; have hw9 : Below w.heap.size w w9 := stepH (by (repeat' (first | with_reducible exact Below.refl _ _ | with_reducible assumption | with_reducible refine Below.drew ?_ | with_reducible refine below_drewN ?_ _ | with_reducible refine Below.setCell ?_ ?_ _ | with_reducible refine Below.alloc ?_ ?_ _ | omega | (simp; done) | (simp; omega)))) hb9; have k0 := cellOf hb9 (by first | exact k0 | exact cell_drew k0); have k1 := cellOf hb9 (by first | exact k1 | exact cell_drew k1); have j0 := cellOf hb9 (by first | exact j0 | exact cell_drew j0); have j1 := cellOf hb9 (by first | exact j1 | exact cell_drew j1)))
          rcases hor with ⟨h, rfl⟩ | ⟨h, h2⟩
          · have HR2 : Hid (riN ((gs.map bR).map frm) (k2 + 1) = true) := by show _ = _; rw [HST.out]; exact decide_eq_true h
            clear h
            go_wp2_with fail
            go_roundw
            case rel => exact ⟨k2 + 1, by omega, by go_num, HR2, by (repeat' (first | with_reducible exact Below.refl _ _ | with_reducible assumption | with_reducible refine Below.drew ?_ | with_reducible refine below_drewN ?_ _ | with_reducible refine Below.setCell ?_ ?_ _ | with_reducible refine Below.alloc ?_ ?_ _ | omega | (simp; done) | (simp; omega)))⟩
            case measure => simp [intOf]; omega
          · have HR2 : Hid (riN ((gs.map bR).map frm) (k2 + 1) = false) := by show _ = _; rw [HST.out]; exact decide_eq_false h
            clear h
            go_wp2_with fail
            go_ret
            exact ⟨codeE_is (by rw [scaleE_rise (by omega) hlt HG.out HR2.out]; rfl), by (repeat' (first | with_reducible exact Below.refl _ _ | with_reducible assumption | with_reducible refine Below.drew ?_ | with_reducible refine below_drewN ?_ _ | with_reducible refine Below.setCell ?_ ?_ _ | with_reducible refine Below.alloc ?_ ?_ _ | omega | (simp; done) | (simp; omega)))⟩
        · have hkk : k2 = gs.length - 1 := by omega
          have HF := Lib.hid (scaleE_ok (by omega) HG.out (by rw [← hkk]; exact hri.out))
          by_cases h0 : gs.length = 0
          · have HR := Lib.hid (codeE_is (r := scaleE (gs.map bR)) (c := 110) (by rw [HF.out, if_pos h0]; rfl))
            have hb0 : ((gs.length : Int) == 0) = true := by simp [h0]
            clear h0 hkk
            go_wp2_with fail
            go_ret
            exact ⟨HR.out, by (repeat' (first | with_reducible exact Below.refl _ _ | with_reducible assumption | with_reducible refine Below.drew ?_ | with_reducible refine below_drewN ?_ _ | with_reducible refine Below.setCell ?_ ?_ _ | with_reducible refine Below.alloc ?_ ?_ _ | omega | (simp; done) | (simp; omega)))⟩
          · have HR := Lib.hid (codeE_is (r := scaleE (gs.map bR)) (c := 0) (by rw [HF.out, if_neg h0]; rfl))
            have hb0 : ((gs.length : Int) == 0) = false := beq_false_of_ne (by omega)
            clear h0 hkk
            go_wp2_with fail
            go_ret
            exact ⟨HR.out, by (repeat' (first | with_reducible exact Below.refl _ _ | with_reducible assumption | with_reducible refine Below.drew ?_ | with_reducible refine below_drewN ?_ _ | with_reducible refine Below.setCell ?_ ?_ _ | with_reducible refine Below.alloc ?_ ?_ _ | omega | (simp; done) | (simp; omega)))⟩

theorem refZero_any (w : World) : Calls Tryd.prog 41 #[] w fun e w' => e = .returned (.agg #[.int .i64 0, .int .i64 1]) ∧ Below w.heap.size w w' := by
  go_enter Tryd.func41, Tryd.ntmps41
  go_wp2
  refine bodyPost_ret (v := .agg #[.int .i64 0, .int .i64 1]) (by simp [results, Tryd.results41, go_sem]) rfl ⟨rfl, by (repeat' (first | with_reducible exact Below.refl _ _ | with_reducible assumption | with_reducible refine Below.drew ?_ | with_reducible refine below_drewN ?_ _ | with_reducible refine Below.setCell ?_ ?_ _ | with_reducible refine Below.alloc ?_ ?_ _ | omega | (simp; done) | (simp; omega)))⟩

end Go.Proofs.YtmankldedhgdiaaDoor
