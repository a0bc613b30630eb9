/- Part: the walk. -/
import Derived.Test.YtcbglkkmblmbnaaDoorIndexC
namespace Go.Proofs.YtcbglkkmblmbnaaDoor
open Go.RowKit

def partOk (base frm til num den : Int) : Bool := bdB base 1000000000000 && bdB frm 1000000000000 && bdB til 1000000000000 && bdB num 1000000 && bdB den 1000000

/-- what Part answers -/
def partI (base frm til num den : Int) : Except Nat Int :=
  if den = 0 then .error 5
  else if partOk base frm til num den = false then .error 1
  else if bdB (base + ((til - frm) * num).tdiv den) 1000000000000 = false then .error 1
  else .ok (base + ((til - frm) * num).tdiv den)

theorem partI_zero (base frm til num : Int) : partI base frm til num 0 = .error 5 := by unfold partI; rw [if_pos rfl]

theorem partI_bad {base frm til num den : Int} (h0 : den ≠ 0) (h : partOk base frm til num den = false) : partI base frm til num den = .error 1 := by unfold partI; rw [if_neg h0, if_pos h]

theorem partI_out {base frm til num den : Int} (h0 : den ≠ 0) (h : partOk base frm til num den = true) (h1 : bdB (base + ((til - frm) * num).tdiv den) 1000000000000 = false) : partI base frm til num den = .error 1 := by unfold partI; rw [if_neg h0, if_neg (by rw [h]; simp), if_pos h1]

theorem partI_ok {base frm til num den : Int} (h0 : den ≠ 0) (h : partOk base frm til num den = true) (h1 : bdB (base + ((til - frm) * num).tdiv den) 1000000000000 = true) : partI base frm til num den = .ok (base + ((til - frm) * num).tdiv den) := by unfold partI; rw [if_neg h0, if_neg (by rw [h]; simp), if_neg (by rw [h1]; simp)]

theorem partOk_one {base frm til num den : Int} {k : Nat} {x : Int} (hx : [base, frm, til][k]? = some x) (h : bdB x 1000000000000 = false) : partOk base frm til num den = false := by
  unfold partOk
  match k with
  | 0 => cases hx; rw [h]; rfl
  | 1 => cases hx; rw [h, Bool.and_false]; rfl
  | 2 => cases hx; rw [h, Bool.and_false]; rfl
  | k + 3 => simp at hx

theorem tdiv_bd {P d B : Int} (h1 : -B ≤ P) (h2 : P ≤ B) : -B ≤ P.tdiv d ∧ P.tdiv d ≤ B := by
  have h := Int.natAbs_tdiv P d
  have h3 : P.natAbs.div d.natAbs ≤ P.natAbs := Nat.div_le_self P.natAbs d.natAbs
  rw [← h] at h3
  omega

theorem part_prod {frm til num : Int} (a1 : -1000000000000 ≤ frm) (a2 : frm ≤ 1000000000000) (b1 : -1000000000000 ≤ til) (b2 : til ≤ 1000000000000) (c1 : -1000000 ≤ num) (c2 : num ≤ 1000000) :
    -2000000000000000000 ≤ (til - frm) * num ∧ (til - frm) * num ≤ 2000000000000000000 := by
  have h := Nat.mul_le_mul (show (til - frm).natAbs ≤ 2000000000000 by omega) (show num.natAbs ≤ 1000000 by omega)
  rw [← Int.natAbs_mul] at h
  omega

set_option maxRecDepth 10000 in
set_option maxHeartbeats 8000000 in
theorem part_any (base frm til num den : Int) (E : Nat → Addr) (w : World) (B1 : -9223372036854775808 ≤ base ∧ base ≤ 9223372036854775807) (B2 : -9223372036854775808 ≤ frm ∧ frm ≤ 9223372036854775807) (B3 : -9223372036854775808 ≤ til ∧ til ≤ 9223372036854775807)
    (B4 : -9223372036854775808 ≤ num ∧ num ≤ 9223372036854775807) (B5 : -9223372036854775808 ≤ den ∧ den ≤ 9223372036854775807) (hE : Env LI E w) :
    Calls Tryd.prog 32 #[.int .i64 base, .int .i64 frm, .int .i64 til, .int .i64 num, .int .i64 den] w fun e w' => RetN E (partI base frm til num den) e ∧ Below w.heap.size w w' := by
  obtain ⟨B1a, B1b⟩ := B1
  obtain ⟨B2a, B2b⟩ := B2
  obtain ⟨B3a, B3b⟩ := B3
  obtain ⟨B4a, B4b⟩ := B4
  obtain ⟨B5a, B5b⟩ := B5
  have HE := Lib.hid hE
  by_cases h0 : den = 0
  · subst h0
    have hc' := hE.cell 5 (by decide)
    clear hE
    have HZ := Lib.hid (partI_zero base frm til num)
    go_enter Tryd.func32, Tryd.ntmps32
    go_wp2_with fail
    go_region
    all_goals go_wp2_with fail
    all_goals go_ret2
    all_goals exact ⟨retN_err HZ.out, by (repeat' (first | with_reducible exact Below.refl _ _ | with_reducible assumption | with_reducible refine Below.drew ?_ | with_reducible refine below_drewN ?_ _ | with_reducible refine Below.setCell ?_ ?_ _ | with_reducible refine Below.alloc ?_ ?_ _ | omega | (simp; done) | (simp; omega)))⟩
  · clear hE
    have hz : (den == 0) = false := by simpa using h0
    have H0 := Lib.hid h0
    clear h0
    go_enter Tryd.func32, Tryd.ntmps32
    go_wp2_with fail
    go_loopw [23] (fun i wr => ∃ k : Nat, k ≤ 3 ∧ i = .int .i64 k ∧ Hid (∀ j x, j < k → [base, frm, til][j]? = some x → bdB x 1000000000000 = true) ∧ Hid (wr.heap[w.heap.size]? = some (.cells #[.int .i64 base, .int .i64 frm, .int .i64 til] 3 (0, 0))) ∧ Below w.heap.size w wr) (fun i _ => 3 - (intOf i).toNat)
    case atStart => exact ⟨0, by omega, rfl, (fun j x h => by omega), newH, by (repeat' (first | with_reducible exact Below.refl _ _ | with_reducible assumption | with_reducible refine Below.drew ?_ | with_reducible refine below_drewN ?_ _ | with_reducible refine Below.setCell ?_ ?_ _ | with_reducible refine Below.alloc ?_ ?_ _ | omega | (simp; done) | (simp; omega)))⟩
    case round =>
      obtain ⟨k, hk, rfl, hv, hX, hw0⟩ := hrel
      have z0 := hw0.size
      by_cases hlt : k < 3
      · obtain ⟨x, hx⟩ : ∃ x, [base, frm, til][k]? = some x := ⟨[base, frm, til][k], List.getElem?_eq_getElem hlt⟩
        obtain ⟨b, off, hA, _, hc⟩ := row3 wr base frm til 3 w.heap.size hX k x hx
        injection hA with hA
        injection hA with hA1 hA2
        subst hA1 hA2
        have c0 : wr.cell? ⟨w.heap.size, k, none⟩ = some (.int .i64 x) := by have := hc 0 _ rfl; simpa using this
        have bx : -9223372036854775808 ≤ x ∧ x ≤ 9223372036854775807 := by
          match k with
          | 0 => cases hx; omega
          | 1 => cases hx; omega
          | 2 => cases hx; omega
          | k + 3 => omega
        obtain ⟨bx1, bx2⟩ := bx
        have HX := Lib.hid hx
        clear hx hc
        cases hb : bdB x 1000000000000
        · have HB := Lib.hid hb
          have HP := Lib.hid (partI_bad H0.out (partOk_one (num := num) (den := den) HX.out hb))
          clear hb
          go_wp2_with fail
          refine (bounded_is x 1000000000000 false _ HB.out (by omega) (by omega)).mono ?_
          rintro e w2 ⟨rfl, rfl⟩
          have hc' := (HE.out.below hw0).cell 1 (by decide)
          go_wp2_with fail
          go_region
          all_goals go_wp2_with fail
          all_goals go_ret2
          all_goals exact ⟨retN_err HP.out, by (repeat' (first | with_reducible exact Below.refl _ _ | with_reducible assumption | with_reducible refine Below.drew ?_ | with_reducible refine below_drewN ?_ _ | with_reducible refine Below.setCell ?_ ?_ _ | with_reducible refine Below.alloc ?_ ?_ _ | omega | (simp; done) | (simp; omega)))⟩
        · have HB := Lib.hid hb
          clear hb
          go_wp2_with fail
          refine (bounded_is x 1000000000000 true _ HB.out (by omega) (by omega)).mono ?_
          rintro e w2 ⟨rfl, rfl⟩
          go_wp2_with fail
          go_roundw
          case rel =>
            refine ⟨k + 1, by omega, by go_num, (fun j y hj hy => ?_), hX, hw0⟩
            rcases Nat.lt_or_ge j k with h | h
            · exact hv.out j y h hy
            · obtain rfl : j = k := by omega
              rw [HX.out] at hy
              cases hy
              exact HB.out
          case measure => simp [intOf]; omega
      · obtain rfl : k = 3 := by omega
        have v0 := hv.out 0 _ (by omega) rfl
        have v1 := hv.out 1 _ (by omega) rfl
        have v2 := hv.out 2 _ (by omega) rfl
        obtain ⟨p1, p2⟩ := bdB_of v0
        obtain ⟨p3, p4⟩ := bdB_of v1
        obtain ⟨p5, p6⟩ := bdB_of v2
        have HV : Hid (bdB base 1000000000000 = true ∧ bdB frm 1000000000000 = true ∧ bdB til 1000000000000 = true) := ⟨v0, v1, v2⟩
        clear v0 v1 v2 hv hlt hk
        cases hn : bdB num 1000000
        · have HN := Lib.hid hn
          have HP : Hid (partI base frm til num den = .error 1) := by
            show _ = _
            exact partI_bad H0.out (by unfold partOk; rw [hn, Bool.and_false]; rfl)
          clear hn
          go_wp2_with fail
          refine (bounded_is num 1000000 false _ HN.out (by omega) (by omega)).mono ?_
          rintro e w2 ⟨rfl, rfl⟩
          have hc' := (HE.out.below hw0).cell 1 (by decide)
          go_wp2_with fail
          go_region
          all_goals go_wp2_with fail
          all_goals go_ret2
          all_goals exact ⟨retN_err HP.out, by (repeat' (first | with_reducible exact Below.refl _ _ | with_reducible assumption | with_reducible refine Below.drew ?_ | with_reducible refine below_drewN ?_ _ | with_reducible refine Below.setCell ?_ ?_ _ | with_reducible refine Below.alloc ?_ ?_ _ | omega | (simp; done) | (simp; omega)))⟩
        · have HN := Lib.hid hn
          obtain ⟨p7, p8⟩ := bdB_of hn
          clear hn
          cases hd : bdB den 1000000
          · have HD := Lib.hid hd
            have HP : Hid (partI base frm til num den = .error 1) := by
              show _ = _
              exact partI_bad H0.out (by unfold partOk; rw [hd, Bool.and_false])
            clear hd
            go_wp2_with fail
            refine (bounded_is num 1000000 true _ HN.out (by omega) (by omega)).mono ?_
            rintro e w2 ⟨rfl, rfl⟩
            go_wp2_with fail
            refine (bounded_is den 1000000 false _ HD.out (by omega) (by omega)).mono ?_
            rintro e w2 ⟨rfl, rfl⟩
            have hc' := (HE.out.below hw0).cell 1 (by decide)
            go_wp2_with fail
            go_region
            all_goals go_wp2_with fail
            all_goals go_ret2
            all_goals exact ⟨retN_err HP.out, by (repeat' (first | with_reducible exact Below.refl _ _ | with_reducible assumption | with_reducible refine Below.drew ?_ | with_reducible refine below_drewN ?_ _ | with_reducible refine Below.setCell ?_ ?_ _ | with_reducible refine Below.alloc ?_ ?_ _ | omega | (simp; done) | (simp; omega)))⟩
          · have HD := Lib.hid hd
            have PO : Hid (partOk base frm til num den = true) := by
              obtain ⟨v0, v1, v2⟩ := HV.out
              have hn := HN.out
              show _ = _
              unfold partOk
              rw [v0, v1, v2, hn, hd]; rfl
            clear hd
            obtain ⟨q1, q2⟩ := part_prod p3 p4 p5 p6 p7 p8
            obtain ⟨q3, q4⟩ := tdiv_bd (d := den) q1 q2
            cases ho : bdB (base + ((til - frm) * num).tdiv den) 1000000000000
            all_goals
              have HO := Lib.hid ho
              clear ho
              go_wp2_with fail
              refine (bounded_is num 1000000 true _ HN.out (by omega) (by omega)).mono ?_
              rintro e w2 ⟨rfl, rfl⟩
              go_wp2_with fail
              refine (bounded_is den 1000000 true _ HD.out (by omega) (by omega)).mono ?_
              rintro e w2 ⟨rfl, rfl⟩
              go_wp2_with fail
              refine (bounded_is _ 1000000000000 _ _ HO.out (by omega) (by omega)).mono ?_
              rintro e w2 ⟨rfl, rfl⟩
            · have hc' := (HE.out.below hw0).cell 1 (by decide)
              go_wp2_with fail
              go_region
              all_goals go_wp2_with fail
              all_goals go_ret2
              all_goals exact ⟨retN_err (partI_out H0.out PO.out HO.out), by (repeat' (first | with_reducible exact Below.refl _ _ | with_reducible assumption | with_reducible refine Below.drew ?_ | with_reducible refine below_drewN ?_ _ | with_reducible refine Below.setCell ?_ ?_ _ | with_reducible refine Below.alloc ?_ ?_ _ | omega | (simp; done) | (simp; omega)))⟩
            · go_wp2_with fail
              go_ret2
              exact ⟨retN_ok (partI_ok H0.out PO.out HO.out), by (repeat' (first | with_reducible exact Below.refl _ _ | with_reducible assumption | with_reducible refine Below.drew ?_ | with_reducible refine below_drewN ?_ _ | with_reducible refine Below.setCell ?_ ?_ _ | with_reducible refine Below.alloc ?_ ?_ _ | omega | (simp; done) | (simp; omega)))⟩

end Go.Proofs.YtcbglkkmblmbnaaDoor
