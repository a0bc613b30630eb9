/- The walk of IndexGives. -/
import Derived.Test.YtcbglkkmblmbnaaDoorIndexG
import Derived.Test.YtcbglkkmblmbnaaDoorIndexLaw
namespace Go.Proofs.YtcbglkkmblmbnaaDoor
open Go.RowKit

/-- what Part adds, by signs -/
theorem part_signs {base frm til num den n : Int} (h : partI base frm til num den = .ok n) : den ≠ 0 ∧ partOk base frm til num den = true ∧ -1000000000000 ≤ n ∧ n ≤ 1000000000000 ∧ ∃ A B q : Int, 0 ≤ A ∧ A ≤ 2000000000000000000 ∧ 1 ≤ B ∧ B ≤ 1000000 ∧ n = base + q ∧
    (((til - frm) * num = A ∧ den = B ∧ q = A / B) ∨ ((til - frm) * num = -A ∧ den = B ∧ q = -(A / B)) ∨ ((til - frm) * num = A ∧ den = -B ∧ q = -(A / B)) ∨ ((til - frm) * num = -A ∧ den = -B ∧ q = A / B)) := by
  unfold partI at h
  split at h
  · cases h
  rename_i h0
  split at h
  · cases h
  rename_i hp
  split at h
  · cases h
  rename_i hb
  have hp' : partOk base frm til num den = true := by simpa using hp
  obtain ⟨b1, b2⟩ := bdB_of (show bdB (base + ((til - frm) * num).tdiv den) 1000000000000 = true by simpa using hb)
  cases h
  have hp2 := hp'
  unfold partOk at hp2
  simp only [Bool.and_eq_true] at hp2
  obtain ⟨⟨⟨⟨c1, c2⟩, c3⟩, c4⟩, c5⟩ := hp2
  obtain ⟨c21, c22⟩ := bdB_of c2
  obtain ⟨c31, c32⟩ := bdB_of c3
  obtain ⟨c41, c42⟩ := bdB_of c4
  obtain ⟨c51, c52⟩ := bdB_of c5
  obtain ⟨p1, p2⟩ := part_prod c21 c22 c31 c32 c41 c42
  refine ⟨h0, hp', b1, b2, ((til - frm) * num).natAbs, den.natAbs, _, by omega, by omega, by omega, by omega, rfl, ?_⟩
  generalize (til - frm) * num = P at *
  rcases Int.le_total 0 P with s1 | s1 <;> rcases Int.le_total 0 den with s2 | s2
  · exact .inl ⟨by omega, by omega, by rw [Int.natAbs_of_nonneg s1, Int.natAbs_of_nonneg s2, Int.tdiv_eq_ediv_of_nonneg s1]⟩
  · refine .inr (.inr (.inl ⟨by omega, by omega, ?_⟩))
    rw [Int.natAbs_of_nonneg s1, Int.ofNat_natAbs_of_nonpos s2, Int.ediv_neg, Int.neg_neg, Int.tdiv_eq_ediv_of_nonneg s1]
  · refine .inr (.inl ⟨by omega, by omega, ?_⟩)
    rw [Int.ofNat_natAbs_of_nonpos s1, Int.natAbs_of_nonneg s2, ← Int.tdiv_eq_ediv_of_nonneg (by omega), Int.neg_tdiv, Int.neg_neg]
  · refine .inr (.inr (.inr ⟨by omega, by omega, ?_⟩))
    rw [Int.ofNat_natAbs_of_nonpos s1, Int.ofNat_natAbs_of_nonpos s2, Int.ediv_neg, ← Int.tdiv_eq_ediv_of_nonneg (by omega), Int.neg_tdiv, Int.neg_neg]

theorem part_turned {base frm til num den n m : Int} (h : partI base frm til num den = .ok n) (h2 : partI base til frm num den = .ok m) : m = base - (n - base) := by
  unfold partI at h h2
  split at h
  · cases h
  split at h
  · cases h
  split at h
  · cases h
  rw [if_neg (by assumption)] at h2
  split at h2
  · cases h2
  split at h2
  · cases h2
  cases h
  cases h2
  have e : (frm - til) * num = -((til - frm) * num) := by rw [← Int.neg_mul]; congr 1; omega
  rw [e, Int.neg_tdiv]
  omega

theorem parts_of {base frm til num den : Int} (h : partOk base frm til num den = true) : -1000000000000 ≤ base ∧ base ≤ 1000000000000 ∧ -1000000000000 ≤ frm ∧ frm ≤ 1000000000000 ∧ -1000000000000 ≤ til ∧ til ≤ 1000000000000 ∧ -1000000 ≤ num ∧ num ≤ 1000000 := by
  unfold partOk at h
  simp only [Bool.and_eq_true] at h
  obtain ⟨⟨⟨⟨c1, c2⟩, c3⟩, c4⟩, c5⟩ := h
  obtain ⟨c11, c12⟩ := bdB_of c1
  obtain ⟨c21, c22⟩ := bdB_of c2
  obtain ⟨c31, c32⟩ := bdB_of c3
  obtain ⟨c41, c42⟩ := bdB_of c4
  omega

set_option maxRecDepth 100000 in
set_option maxHeartbeats 16000000 in
theorem indexGives_walk (base frm til num den : Int) (E : Nat → Addr) (w : World) (Bbase : -9223372036854775808 ≤ base ∧ base ≤ 9223372036854775807) (Bfrm : -9223372036854775808 ≤ frm ∧ frm ≤ 9223372036854775807) (Btil : -9223372036854775808 ≤ til ∧ til ≤ 9223372036854775807) (Bnum : -9223372036854775808 ≤ num ∧ num ≤ 9223372036854775807) (Bden : -9223372036854775808 ≤ den ∧ den ≤ 9223372036854775807) (hE : Env LI E w) :
    Calls Tryd.prog 10 #[.int .i64 base, .int .i64 frm, .int .i64 til, .int .i64 num, .int .i64 den] w fun e w' => e = .returned (.bool true) ∧ Below w.heap.size w w' := by
  obtain ⟨Bbase1, Bbase2⟩ := Bbase
  obtain ⟨Bfrm1, Bfrm2⟩ := Bfrm
  obtain ⟨Btil1, Btil2⟩ := Btil
  obtain ⟨Bnum1, Bnum2⟩ := Bnum
  obtain ⟨Bden1, Bden2⟩ := Bden
  have HE := Lib.hid hE
  clear hE
  cases hg : partI base frm til num den
  · rename_i g
    have HG := Lib.hid hg
    clear hg
    go_enter Tryd.func10, Tryd.ntmps10
    go_wp2_with fail
    refine (first16_any E _ (HE.out.below (by (repeat' (first | with_reducible exact Below.refl _ _ | with_reducible assumption | with_reducible refine Below.drew ?_ | with_reducible refine below_drewN ?_ _ | with_reducible refine Below.setCell ?_ ?_ _ | with_reducible refine Below.alloc ?_ ?_ _ | omega | (simp; done) | (simp; omega)))))).mono ?_
    rintro e w1 ⟨rfl, hb1⟩
    have hw1 : Below w.heap.size w w1 := stepH (by (repeat' (first | with_reducible exact Below.refl _ _ | with_reducible assumption | with_reducible refine Below.drew ?_ | with_reducible refine below_drewN ?_ _ | with_reducible refine Below.setCell ?_ ?_ _ | with_reducible refine Below.alloc ?_ ?_ _ | omega | (simp; done) | (simp; omega)))) hb1
    have z1 := hw1.size
    clear hb1
    go_wp2_with fail
    refine (part_any base frm til num den E _ ⟨Bbase1, Bbase2⟩ ⟨by omega, by omega⟩ ⟨by omega, by omega⟩ ⟨Bnum1, Bnum2⟩ ⟨by omega, by omega⟩ (HE.out.below (by (repeat' (first | with_reducible exact Below.refl _ _ | with_reducible assumption | with_reducible refine Below.drew ?_ | with_reducible refine below_drewN ?_ _ | with_reducible refine Below.setCell ?_ ?_ _ | with_reducible refine Below.alloc ?_ ?_ _ | omega | (simp; done) | (simp; omega)))))).mono ?_
    rintro e w2 ⟨⟨n, err, rfl, hr⟩, hb2⟩
    have hw2 : Below w.heap.size w w2 := stepH (by (repeat' (first | with_reducible exact Below.refl _ _ | with_reducible assumption | with_reducible refine Below.drew ?_ | with_reducible refine below_drewN ?_ _ | with_reducible refine Below.setCell ?_ ?_ _ | with_reducible refine Below.alloc ?_ ?_ _ | omega | (simp; done) | (simp; omega)))) hb2
    rw [HG.out] at hr
    obtain ⟨rfl, rfl⟩ := hr
    have z2 := hw2.size
    clear hb2 hw1 z1
    have hen := fun w => eql_nil (E g) w
    go_wp2_with fail
    go_ret
    exact ⟨rfl, by (repeat' (first | with_reducible exact Below.refl _ _ | with_reducible assumption | with_reducible refine Below.drew ?_ | with_reducible refine below_drewN ?_ _ | with_reducible refine Below.setCell ?_ ?_ _ | with_reducible refine Below.alloc ?_ ?_ _ | omega | (simp; done) | (simp; omega)))⟩
  · rename_i n
    obtain ⟨h0, hpo, n1, n2, A, B, q, A1, A2, B1, B2, hn, four⟩ := part_signs hg
    have HT := Lib.hid (fun m h => part_turned (m := m) hg h)
    have HG := Lib.hid hg
    obtain ⟨c1, c2, c3, c4, c5, c6, c7, c8⟩ := parts_of hpo
    obtain ⟨p1, p2⟩ := part_prod c3 c4 c5 c6 c7 c8
    clear hg hpo
    have hqb : 0 ≤ A / B := Int.ediv_nonneg A1 (by omega)
    have hn' : n - base = q := by omega
    clear hn
    go_enter Tryd.func10, Tryd.ntmps10
    go_wp2_with fail
    refine (first16_any E _ (HE.out.below (by (repeat' (first | with_reducible exact Below.refl _ _ | with_reducible assumption | with_reducible refine Below.drew ?_ | with_reducible refine below_drewN ?_ _ | with_reducible refine Below.setCell ?_ ?_ _ | with_reducible refine Below.alloc ?_ ?_ _ | omega | (simp; done) | (simp; omega)))))).mono ?_
    rintro e w3 ⟨rfl, hb3⟩
    have hw3 : Below w.heap.size w w3 := stepH (by (repeat' (first | with_reducible exact Below.refl _ _ | with_reducible assumption | with_reducible refine Below.drew ?_ | with_reducible refine below_drewN ?_ _ | with_reducible refine Below.setCell ?_ ?_ _ | with_reducible refine Below.alloc ?_ ?_ _ | omega | (simp; done) | (simp; omega)))) hb3
    have z3 := hw3.size
    clear hb3
    go_wp2_with fail
    refine (part_any base frm til num den E _ ⟨Bbase1, Bbase2⟩ ⟨by omega, by omega⟩ ⟨by omega, by omega⟩ ⟨Bnum1, Bnum2⟩ ⟨by omega, by omega⟩ (HE.out.below (by (repeat' (first | with_reducible exact Below.refl _ _ | with_reducible assumption | with_reducible refine Below.drew ?_ | with_reducible refine below_drewN ?_ _ | with_reducible refine Below.setCell ?_ ?_ _ | with_reducible refine Below.alloc ?_ ?_ _ | omega | (simp; done) | (simp; omega)))))).mono ?_
    rintro e w4 ⟨⟨n, err, rfl, hr⟩, hb4⟩
    have hw4 : Below w.heap.size w w4 := stepH (by (repeat' (first | with_reducible exact Below.refl _ _ | with_reducible assumption | with_reducible refine Below.drew ?_ | with_reducible refine below_drewN ?_ _ | with_reducible refine Below.setCell ?_ ?_ _ | with_reducible refine Below.alloc ?_ ?_ _ | omega | (simp; done) | (simp; omega)))) hb4
    rw [HG.out] at hr
    obtain ⟨rfl, rfl⟩ := hr
    have z4 := hw4.size
    clear hb4 hw3 z3
    rcases four with ⟨e1, e2, e3⟩ | ⟨e1, e2, e3⟩ | ⟨e1, e2, e3⟩ | ⟨e1, e2, e3⟩
    all_goals subst e2
    · have b1 : max den (-den) = den := by omega
      have b2 : max (-den) den = den := by omega
      have b3 : max A (-A) = A := by omega
      have b4 : max (-A) A = A := by omega
      subst e3
      have hA0 : A / den = 0 ∨ (0 < A / den ∧ 0 < A) := by rcases Int.lt_or_eq_of_le hqb with h | h; exact .inr ⟨h, by rcases Int.lt_or_eq_of_le A1 with h1 | h1; exact h1; rw [← h1, Int.zero_ediv] at h; omega⟩; exact .inl h.symm
      generalize hQ : A / den = Q at *
      rcases hA0 with hQ0 | ⟨hQ0, hA0⟩
      · subst hQ0
        have hn2 : n - base = 0 := by omega
        clear hn'
        cases hf : partI base til frm num den
        · rename_i g
          have HF := Lib.hid hf
          clear hf
          go_wp2_with fail
          refine (part_any base til frm num den E _ ⟨Bbase1, Bbase2⟩ ⟨by omega, by omega⟩ ⟨by omega, by omega⟩ ⟨Bnum1, Bnum2⟩ ⟨by omega, by omega⟩ (HE.out.below (by (repeat' (first | with_reducible exact Below.refl _ _ | with_reducible assumption | with_reducible refine Below.drew ?_ | with_reducible refine below_drewN ?_ _ | with_reducible refine Below.setCell ?_ ?_ _ | with_reducible refine Below.alloc ?_ ?_ _ | omega | (simp; done) | (simp; omega)))))).mono ?_
          rintro e w5 ⟨⟨m, err2, rfl, hr2⟩, hb5⟩
          have hw5 : Below w.heap.size w w5 := stepH (by (repeat' (first | with_reducible exact Below.refl _ _ | with_reducible assumption | with_reducible refine Below.drew ?_ | with_reducible refine below_drewN ?_ _ | with_reducible refine Below.setCell ?_ ?_ _ | with_reducible refine Below.alloc ?_ ?_ _ | omega | (simp; done) | (simp; omega)))) hb5
          rw [HF.out] at hr2
          obtain ⟨rfl, rfl⟩ := hr2
          have z5 := hw5.size
          clear hb5 hw4 z4
          have hen := fun w => eql_nil (E g) w
          go_wp2_with fail
          go_ret
          exact ⟨rfl, by (repeat' (first | with_reducible exact Below.refl _ _ | with_reducible assumption | with_reducible refine Below.drew ?_ | with_reducible refine below_drewN ?_ _ | with_reducible refine Below.setCell ?_ ?_ _ | with_reducible refine Below.alloc ?_ ?_ _ | omega | (simp; done) | (simp; omega)))⟩
        · rename_i m
          have HF := Lib.hid hf
          have hm := HT.out _ hf
          clear hf
          have HM : Hid (m = base - (0)) := by show _ = _; omega
          clear hm
          go_wp2_with fail
          refine (part_any base til frm num den E _ ⟨Bbase1, Bbase2⟩ ⟨by omega, by omega⟩ ⟨by omega, by omega⟩ ⟨Bnum1, Bnum2⟩ ⟨by omega, by omega⟩ (HE.out.below (by (repeat' (first | with_reducible exact Below.refl _ _ | with_reducible assumption | with_reducible refine Below.drew ?_ | with_reducible refine below_drewN ?_ _ | with_reducible refine Below.setCell ?_ ?_ _ | with_reducible refine Below.alloc ?_ ?_ _ | omega | (simp; done) | (simp; omega)))))).mono ?_
          rintro e w6 ⟨⟨m2, err2, rfl, hr2⟩, hb6⟩
          have hw6 : Below w.heap.size w w6 := stepH (by (repeat' (first | with_reducible exact Below.refl _ _ | with_reducible assumption | with_reducible refine Below.drew ?_ | with_reducible refine below_drewN ?_ _ | with_reducible refine Below.setCell ?_ ?_ _ | with_reducible refine Below.alloc ?_ ?_ _ | omega | (simp; done) | (simp; omega)))) hb6
          rw [HF.out] at hr2
          obtain ⟨rfl, rfl⟩ := hr2
          rw [HM.out]
          have z6 := hw6.size
          clear hb6 hw4 z4
          go_wp2_with fail
          go_ret
          exact ⟨rfl, by (repeat' (first | with_reducible exact Below.refl _ _ | with_reducible assumption | with_reducible refine Below.drew ?_ | with_reducible refine below_drewN ?_ _ | with_reducible refine Below.setCell ?_ ?_ _ | with_reducible refine Below.alloc ?_ ?_ _ | omega | (simp; done) | (simp; omega)))⟩
      · have b5 : max Q (-Q) = Q := by omega
        have b6 : max (-Q) Q = Q := by omega
        have b7 : (Q != 0) = true := by rw [bne_iff_ne]; omega
        have b8 : decide (0 < Q) = true := decide_eq_true (by omega)
        have b9 : decide (0 < A) = true := decide_eq_true (by omega)
        have b10 : decide (0 < den) = true := decide_eq_true (by omega)
        have b11 : decide (Q < 0) = false := decide_eq_false (by omega)
        have b12 : decide (A < 0) = false := decide_eq_false (by omega)
        cases hf : partI base til frm num den
        · rename_i g
          have HF := Lib.hid hf
          clear hf
          go_wp2_with fail
          refine (part_any base til frm num den E _ ⟨Bbase1, Bbase2⟩ ⟨by omega, by omega⟩ ⟨by omega, by omega⟩ ⟨Bnum1, Bnum2⟩ ⟨by omega, by omega⟩ (HE.out.below (by (repeat' (first | with_reducible exact Below.refl _ _ | with_reducible assumption | with_reducible refine Below.drew ?_ | with_reducible refine below_drewN ?_ _ | with_reducible refine Below.setCell ?_ ?_ _ | with_reducible refine Below.alloc ?_ ?_ _ | omega | (simp; done) | (simp; omega)))))).mono ?_
          rintro e w7 ⟨⟨m, err2, rfl, hr2⟩, hb7⟩
          have hw7 : Below w.heap.size w w7 := stepH (by (repeat' (first | with_reducible exact Below.refl _ _ | with_reducible assumption | with_reducible refine Below.drew ?_ | with_reducible refine below_drewN ?_ _ | with_reducible refine Below.setCell ?_ ?_ _ | with_reducible refine Below.alloc ?_ ?_ _ | omega | (simp; done) | (simp; omega)))) hb7
          rw [HF.out] at hr2
          obtain ⟨rfl, rfl⟩ := hr2
          have z7 := hw7.size
          clear hb7 hw4 z4
          have hen := fun w => eql_nil (E g) w
          go_wp2_with fail
          go_ret
          exact ⟨rfl, by (repeat' (first | with_reducible exact Below.refl _ _ | with_reducible assumption | with_reducible refine Below.drew ?_ | with_reducible refine below_drewN ?_ _ | with_reducible refine Below.setCell ?_ ?_ _ | with_reducible refine Below.alloc ?_ ?_ _ | omega | (simp; done) | (simp; omega)))⟩
        · rename_i m
          have HF := Lib.hid hf
          have hm := HT.out _ hf
          clear hf
          have HM : Hid (m = base - (Q)) := by show _ = _; omega
          clear hm
          go_wp2_with fail
          refine (part_any base til frm num den E _ ⟨Bbase1, Bbase2⟩ ⟨by omega, by omega⟩ ⟨by omega, by omega⟩ ⟨Bnum1, Bnum2⟩ ⟨by omega, by omega⟩ (HE.out.below (by (repeat' (first | with_reducible exact Below.refl _ _ | with_reducible assumption | with_reducible refine Below.drew ?_ | with_reducible refine below_drewN ?_ _ | with_reducible refine Below.setCell ?_ ?_ _ | with_reducible refine Below.alloc ?_ ?_ _ | omega | (simp; done) | (simp; omega)))))).mono ?_
          rintro e w8 ⟨⟨m2, err2, rfl, hr2⟩, hb8⟩
          have hw8 : Below w.heap.size w w8 := stepH (by (repeat' (first | with_reducible exact Below.refl _ _ | with_reducible assumption | with_reducible refine Below.drew ?_ | with_reducible refine below_drewN ?_ _ | with_reducible refine Below.setCell ?_ ?_ _ | with_reducible refine Below.alloc ?_ ?_ _ | omega | (simp; done) | (simp; omega)))) hb8
          rw [HF.out] at hr2
          obtain ⟨rfl, rfl⟩ := hr2
          rw [HM.out]
          have z8 := hw8.size
          clear hb8 hw4 z4
          go_wp2_with fail
          go_ret
          exact ⟨rfl, by (repeat' (first | with_reducible exact Below.refl _ _ | with_reducible assumption | with_reducible refine Below.drew ?_ | with_reducible refine below_drewN ?_ _ | with_reducible refine Below.setCell ?_ ?_ _ | with_reducible refine Below.alloc ?_ ?_ _ | omega | (simp; done) | (simp; omega)))⟩
    · have b1 : max den (-den) = den := by omega
      have b2 : max (-den) den = den := by omega
      have b3 : max A (-A) = A := by omega
      have b4 : max (-A) A = A := by omega
      subst e3
      have hA0 : A / den = 0 ∨ (0 < A / den ∧ 0 < A) := by rcases Int.lt_or_eq_of_le hqb with h | h; exact .inr ⟨h, by rcases Int.lt_or_eq_of_le A1 with h1 | h1; exact h1; rw [← h1, Int.zero_ediv] at h; omega⟩; exact .inl h.symm
      generalize hQ : A / den = Q at *
      rcases hA0 with hQ0 | ⟨hQ0, hA0⟩
      · subst hQ0
        have hn2 : n - base = 0 := by omega
        clear hn'
        cases hf : partI base til frm num den
        · rename_i g
          have HF := Lib.hid hf
          clear hf
          go_wp2_with fail
          refine (part_any base til frm num den E _ ⟨Bbase1, Bbase2⟩ ⟨by omega, by omega⟩ ⟨by omega, by omega⟩ ⟨Bnum1, Bnum2⟩ ⟨by omega, by omega⟩ (HE.out.below (by (repeat' (first | with_reducible exact Below.refl _ _ | with_reducible assumption | with_reducible refine Below.drew ?_ | with_reducible refine below_drewN ?_ _ | with_reducible refine Below.setCell ?_ ?_ _ | with_reducible refine Below.alloc ?_ ?_ _ | omega | (simp; done) | (simp; omega)))))).mono ?_
          rintro e w9 ⟨⟨m, err2, rfl, hr2⟩, hb9⟩
          have hw9 : Below w.heap.size w w9 := stepH (by (repeat' (first | with_reducible exact Below.refl _ _ | with_reducible assumption | with_reducible refine Below.drew ?_ | with_reducible refine below_drewN ?_ _ | with_reducible refine Below.setCell ?_ ?_ _ | with_reducible refine Below.alloc ?_ ?_ _ | omega | (simp; done) | (simp; omega)))) hb9
          rw [HF.out] at hr2
          obtain ⟨rfl, rfl⟩ := hr2
          have z9 := hw9.size
          clear hb9 hw4 z4
          have hen := fun w => eql_nil (E g) w
          go_wp2_with fail
          go_ret
          exact ⟨rfl, by (repeat' (first | with_reducible exact Below.refl _ _ | with_reducible assumption | with_reducible refine Below.drew ?_ | with_reducible refine below_drewN ?_ _ | with_reducible refine Below.setCell ?_ ?_ _ | with_reducible refine Below.alloc ?_ ?_ _ | omega | (simp; done) | (simp; omega)))⟩
        · rename_i m
          have HF := Lib.hid hf
          have hm := HT.out _ hf
          clear hf
          have HM : Hid (m = base - (0)) := by show _ = _; omega
          clear hm
          go_wp2_with fail
          refine (part_any base til frm num den E _ ⟨Bbase1, Bbase2⟩ ⟨by omega, by omega⟩ ⟨by omega, by omega⟩ ⟨Bnum1, Bnum2⟩ ⟨by omega, by omega⟩ (HE.out.below (by (repeat' (first | with_reducible exact Below.refl _ _ | with_reducible assumption | with_reducible refine Below.drew ?_ | with_reducible refine below_drewN ?_ _ | with_reducible refine Below.setCell ?_ ?_ _ | with_reducible refine Below.alloc ?_ ?_ _ | omega | (simp; done) | (simp; omega)))))).mono ?_
          rintro e w10 ⟨⟨m2, err2, rfl, hr2⟩, hb10⟩
          have hw10 : Below w.heap.size w w10 := stepH (by (repeat' (first | with_reducible exact Below.refl _ _ | with_reducible assumption | with_reducible refine Below.drew ?_ | with_reducible refine below_drewN ?_ _ | with_reducible refine Below.setCell ?_ ?_ _ | with_reducible refine Below.alloc ?_ ?_ _ | omega | (simp; done) | (simp; omega)))) hb10
          rw [HF.out] at hr2
          obtain ⟨rfl, rfl⟩ := hr2
          rw [HM.out]
          have z10 := hw10.size
          clear hb10 hw4 z4
          go_wp2_with fail
          go_ret
          exact ⟨rfl, by (repeat' (first | with_reducible exact Below.refl _ _ | with_reducible assumption | with_reducible refine Below.drew ?_ | with_reducible refine below_drewN ?_ _ | with_reducible refine Below.setCell ?_ ?_ _ | with_reducible refine Below.alloc ?_ ?_ _ | omega | (simp; done) | (simp; omega)))⟩
      · have b5 : max Q (-Q) = Q := by omega
        have b6 : max (-Q) Q = Q := by omega
        have b7 : (-Q != 0) = true := by rw [bne_iff_ne]; omega
        have b8 : decide (0 < -Q) = false := decide_eq_false (by omega)
        have b9 : decide (0 < -A) = false := decide_eq_false (by omega)
        have b10 : decide (0 < den) = true := decide_eq_true (by omega)
        have b11 : decide (Q < 0) = false := decide_eq_false (by omega)
        have b12 : decide (A < 0) = false := decide_eq_false (by omega)
        cases hf : partI base til frm num den
        · rename_i g
          have HF := Lib.hid hf
          clear hf
          go_wp2_with fail
          refine (part_any base til frm num den E _ ⟨Bbase1, Bbase2⟩ ⟨by omega, by omega⟩ ⟨by omega, by omega⟩ ⟨Bnum1, Bnum2⟩ ⟨by omega, by omega⟩ (HE.out.below (by (repeat' (first | with_reducible exact Below.refl _ _ | with_reducible assumption | with_reducible refine Below.drew ?_ | with_reducible refine below_drewN ?_ _ | with_reducible refine Below.setCell ?_ ?_ _ | with_reducible refine Below.alloc ?_ ?_ _ | omega | (simp; done) | (simp; omega)))))).mono ?_
          rintro e w11 ⟨⟨m, err2, rfl, hr2⟩, hb11⟩
          have hw11 : Below w.heap.size w w11 := stepH (by (repeat' (first | with_reducible exact Below.refl _ _ | with_reducible assumption | with_reducible refine Below.drew ?_ | with_reducible refine below_drewN ?_ _ | with_reducible refine Below.setCell ?_ ?_ _ | with_reducible refine Below.alloc ?_ ?_ _ | omega | (simp; done) | (simp; omega)))) hb11
          rw [HF.out] at hr2
          obtain ⟨rfl, rfl⟩ := hr2
          have z11 := hw11.size
          clear hb11 hw4 z4
          have hen := fun w => eql_nil (E g) w
          go_wp2_with fail
          go_ret
          exact ⟨rfl, by (repeat' (first | with_reducible exact Below.refl _ _ | with_reducible assumption | with_reducible refine Below.drew ?_ | with_reducible refine below_drewN ?_ _ | with_reducible refine Below.setCell ?_ ?_ _ | with_reducible refine Below.alloc ?_ ?_ _ | omega | (simp; done) | (simp; omega)))⟩
        · rename_i m
          have HF := Lib.hid hf
          have hm := HT.out _ hf
          clear hf
          have HM : Hid (m = base - (-Q)) := by show _ = _; omega
          clear hm
          go_wp2_with fail
          refine (part_any base til frm num den E _ ⟨Bbase1, Bbase2⟩ ⟨by omega, by omega⟩ ⟨by omega, by omega⟩ ⟨Bnum1, Bnum2⟩ ⟨by omega, by omega⟩ (HE.out.below (by (repeat' (first | with_reducible exact Below.refl _ _ | with_reducible assumption | with_reducible refine Below.drew ?_ | with_reducible refine below_drewN ?_ _ | with_reducible refine Below.setCell ?_ ?_ _ | with_reducible refine Below.alloc ?_ ?_ _ | omega | (simp; done) | (simp; omega)))))).mono ?_
          rintro e w12 ⟨⟨m2, err2, rfl, hr2⟩, hb12⟩
          have hw12 : Below w.heap.size w w12 := stepH (by (repeat' (first | with_reducible exact Below.refl _ _ | with_reducible assumption | with_reducible refine Below.drew ?_ | with_reducible refine below_drewN ?_ _ | with_reducible refine Below.setCell ?_ ?_ _ | with_reducible refine Below.alloc ?_ ?_ _ | omega | (simp; done) | (simp; omega)))) hb12
          rw [HF.out] at hr2
          obtain ⟨rfl, rfl⟩ := hr2
          rw [HM.out]
          have z12 := hw12.size
          clear hb12 hw4 z4
          go_wp2_with fail
          go_ret
          exact ⟨rfl, by (repeat' (first | with_reducible exact Below.refl _ _ | with_reducible assumption | with_reducible refine Below.drew ?_ | with_reducible refine below_drewN ?_ _ | with_reducible refine Below.setCell ?_ ?_ _ | with_reducible refine Below.alloc ?_ ?_ _ | omega | (simp; done) | (simp; omega)))⟩
    · have b1 : max B (-B) = B := by omega
      have b2 : max (-B) B = B := by omega
      have b3 : max A (-A) = A := by omega
      have b4 : max (-A) A = A := by omega
      subst e3
      have hA0 : A / B = 0 ∨ (0 < A / B ∧ 0 < A) := by rcases Int.lt_or_eq_of_le hqb with h | h; exact .inr ⟨h, by rcases Int.lt_or_eq_of_le A1 with h1 | h1; exact h1; rw [← h1, Int.zero_ediv] at h; omega⟩; exact .inl h.symm
      generalize hQ : A / B = Q at *
      rcases hA0 with hQ0 | ⟨hQ0, hA0⟩
      · subst hQ0
        have hn2 : n - base = 0 := by omega
        clear hn'
        cases hf : partI base til frm num (-B)
        · rename_i g
          have HF := Lib.hid hf
          clear hf
          go_wp2_with fail
          refine (part_any base til frm num (-B) E _ ⟨Bbase1, Bbase2⟩ ⟨by omega, by omega⟩ ⟨by omega, by omega⟩ ⟨Bnum1, Bnum2⟩ ⟨by omega, by omega⟩ (HE.out.below (by (repeat' (first | with_reducible exact Below.refl _ _ | with_reducible assumption | with_reducible refine Below.drew ?_ | with_reducible refine below_drewN ?_ _ | with_reducible refine Below.setCell ?_ ?_ _ | with_reducible refine Below.alloc ?_ ?_ _ | omega | (simp; done) | (simp; omega)))))).mono ?_
          rintro e w13 ⟨⟨m, err2, rfl, hr2⟩, hb13⟩
          have hw13 : Below w.heap.size w w13 := stepH (by (repeat' (first | with_reducible exact Below.refl _ _ | with_reducible assumption | with_reducible refine Below.drew ?_ | with_reducible refine below_drewN ?_ _ | with_reducible refine Below.setCell ?_ ?_ _ | with_reducible refine Below.alloc ?_ ?_ _ | omega | (simp; done) | (simp; omega)))) hb13
          rw [HF.out] at hr2
          obtain ⟨rfl, rfl⟩ := hr2
          have z13 := hw13.size
          clear hb13 hw4 z4
          have hen := fun w => eql_nil (E g) w
          go_wp2_with fail
          go_ret
          exact ⟨rfl, by (repeat' (first | with_reducible exact Below.refl _ _ | with_reducible assumption | with_reducible refine Below.drew ?_ | with_reducible refine below_drewN ?_ _ | with_reducible refine Below.setCell ?_ ?_ _ | with_reducible refine Below.alloc ?_ ?_ _ | omega | (simp; done) | (simp; omega)))⟩
        · rename_i m
          have HF := Lib.hid hf
          have hm := HT.out _ hf
          clear hf
          have HM : Hid (m = base - (0)) := by show _ = _; omega
          clear hm
          go_wp2_with fail
          refine (part_any base til frm num (-B) E _ ⟨Bbase1, Bbase2⟩ ⟨by omega, by omega⟩ ⟨by omega, by omega⟩ ⟨Bnum1, Bnum2⟩ ⟨by omega, by omega⟩ (HE.out.below (by (repeat' (first | with_reducible exact Below.refl _ _ | with_reducible assumption | with_reducible refine Below.drew ?_ | with_reducible refine below_drewN ?_ _ | with_reducible refine Below.setCell ?_ ?_ _ | with_reducible refine Below.alloc ?_ ?_ _ | omega | (simp; done) | (simp; omega)))))).mono ?_
          rintro e w14 ⟨⟨m2, err2, rfl, hr2⟩, hb14⟩
          have hw14 : Below w.heap.size w w14 := stepH (by (repeat' (first | with_reducible exact Below.refl _ _ | with_reducible assumption | with_reducible refine Below.drew ?_ | with_reducible refine below_drewN ?_ _ | with_reducible refine Below.setCell ?_ ?_ _ | with_reducible refine Below.alloc ?_ ?_ _ | omega | (simp; done) | (simp; omega)))) hb14
          rw [HF.out] at hr2
          obtain ⟨rfl, rfl⟩ := hr2
          rw [HM.out]
          have z14 := hw14.size
          clear hb14 hw4 z4
          go_wp2_with fail
          go_ret
          exact ⟨rfl, by (repeat' (first | with_reducible exact Below.refl _ _ | with_reducible assumption | with_reducible refine Below.drew ?_ | with_reducible refine below_drewN ?_ _ | with_reducible refine Below.setCell ?_ ?_ _ | with_reducible refine Below.alloc ?_ ?_ _ | omega | (simp; done) | (simp; omega)))⟩
      · have b5 : max Q (-Q) = Q := by omega
        have b6 : max (-Q) Q = Q := by omega
        have b7 : (-Q != 0) = true := by rw [bne_iff_ne]; omega
        have b8 : decide (0 < -Q) = false := decide_eq_false (by omega)
        have b9 : decide (0 < A) = true := decide_eq_true (by omega)
        have b10 : decide (0 < -B) = false := decide_eq_false (by omega)
        have b11 : decide (Q < 0) = false := decide_eq_false (by omega)
        have b12 : decide (A < 0) = false := decide_eq_false (by omega)
        have b13 : decide (B < 0) = false := decide_eq_false (by omega)
        cases hf : partI base til frm num (-B)
        · rename_i g
          have HF := Lib.hid hf
          clear hf
          go_wp2_with fail
          refine (part_any base til frm num (-B) E _ ⟨Bbase1, Bbase2⟩ ⟨by omega, by omega⟩ ⟨by omega, by omega⟩ ⟨Bnum1, Bnum2⟩ ⟨by omega, by omega⟩ (HE.out.below (by (repeat' (first | with_reducible exact Below.refl _ _ | with_reducible assumption | with_reducible refine Below.drew ?_ | with_reducible refine below_drewN ?_ _ | with_reducible refine Below.setCell ?_ ?_ _ | with_reducible refine Below.alloc ?_ ?_ _ | omega | (simp; done) | (simp; omega)))))).mono ?_
          rintro e w15 ⟨⟨m, err2, rfl, hr2⟩, hb15⟩
          have hw15 : Below w.heap.size w w15 := stepH (by (repeat' (first | with_reducible exact Below.refl _ _ | with_reducible assumption | with_reducible refine Below.drew ?_ | with_reducible refine below_drewN ?_ _ | with_reducible refine Below.setCell ?_ ?_ _ | with_reducible refine Below.alloc ?_ ?_ _ | omega | (simp; done) | (simp; omega)))) hb15
          rw [HF.out] at hr2
          obtain ⟨rfl, rfl⟩ := hr2
          have z15 := hw15.size
          clear hb15 hw4 z4
          have hen := fun w => eql_nil (E g) w
          go_wp2_with fail
          go_ret
          exact ⟨rfl, by (repeat' (first | with_reducible exact Below.refl _ _ | with_reducible assumption | with_reducible refine Below.drew ?_ | with_reducible refine below_drewN ?_ _ | with_reducible refine Below.setCell ?_ ?_ _ | with_reducible refine Below.alloc ?_ ?_ _ | omega | (simp; done) | (simp; omega)))⟩
        · rename_i m
          have HF := Lib.hid hf
          have hm := HT.out _ hf
          clear hf
          have HM : Hid (m = base - (-Q)) := by show _ = _; omega
          clear hm
          go_wp2_with fail
          refine (part_any base til frm num (-B) E _ ⟨Bbase1, Bbase2⟩ ⟨by omega, by omega⟩ ⟨by omega, by omega⟩ ⟨Bnum1, Bnum2⟩ ⟨by omega, by omega⟩ (HE.out.below (by (repeat' (first | with_reducible exact Below.refl _ _ | with_reducible assumption | with_reducible refine Below.drew ?_ | with_reducible refine below_drewN ?_ _ | with_reducible refine Below.setCell ?_ ?_ _ | with_reducible refine Below.alloc ?_ ?_ _ | omega | (simp; done) | (simp; omega)))))).mono ?_
          rintro e w16 ⟨⟨m2, err2, rfl, hr2⟩, hb16⟩
          have hw16 : Below w.heap.size w w16 := stepH (by (repeat' (first | with_reducible exact Below.refl _ _ | with_reducible assumption | with_reducible refine Below.drew ?_ | with_reducible refine below_drewN ?_ _ | with_reducible refine Below.setCell ?_ ?_ _ | with_reducible refine Below.alloc ?_ ?_ _ | omega | (simp; done) | (simp; omega)))) hb16
          rw [HF.out] at hr2
          obtain ⟨rfl, rfl⟩ := hr2
          rw [HM.out]
          have z16 := hw16.size
          clear hb16 hw4 z4
          go_wp2_with fail
          go_ret
          exact ⟨rfl, by (repeat' (first | with_reducible exact Below.refl _ _ | with_reducible assumption | with_reducible refine Below.drew ?_ | with_reducible refine below_drewN ?_ _ | with_reducible refine Below.setCell ?_ ?_ _ | with_reducible refine Below.alloc ?_ ?_ _ | omega | (simp; done) | (simp; omega)))⟩
    · have b1 : max B (-B) = B := by omega
      have b2 : max (-B) B = B := by omega
      have b3 : max A (-A) = A := by omega
      have b4 : max (-A) A = A := by omega
      subst e3
      have hA0 : A / B = 0 ∨ (0 < A / B ∧ 0 < A) := by rcases Int.lt_or_eq_of_le hqb with h | h; exact .inr ⟨h, by rcases Int.lt_or_eq_of_le A1 with h1 | h1; exact h1; rw [← h1, Int.zero_ediv] at h; omega⟩; exact .inl h.symm
      generalize hQ : A / B = Q at *
      rcases hA0 with hQ0 | ⟨hQ0, hA0⟩
      · subst hQ0
        have hn2 : n - base = 0 := by omega
        clear hn'
        cases hf : partI base til frm num (-B)
        · rename_i g
          have HF := Lib.hid hf
          clear hf
          go_wp2_with fail
          refine (part_any base til frm num (-B) E _ ⟨Bbase1, Bbase2⟩ ⟨by omega, by omega⟩ ⟨by omega, by omega⟩ ⟨Bnum1, Bnum2⟩ ⟨by omega, by omega⟩ (HE.out.below (by (repeat' (first | with_reducible exact Below.refl _ _ | with_reducible assumption | with_reducible refine Below.drew ?_ | with_reducible refine below_drewN ?_ _ | with_reducible refine Below.setCell ?_ ?_ _ | with_reducible refine Below.alloc ?_ ?_ _ | omega | (simp; done) | (simp; omega)))))).mono ?_
          rintro e w17 ⟨⟨m, err2, rfl, hr2⟩, hb17⟩
          have hw17 : Below w.heap.size w w17 := stepH (by (repeat' (first | with_reducible exact Below.refl _ _ | with_reducible assumption | with_reducible refine Below.drew ?_ | with_reducible refine below_drewN ?_ _ | with_reducible refine Below.setCell ?_ ?_ _ | with_reducible refine Below.alloc ?_ ?_ _ | omega | (simp; done) | (simp; omega)))) hb17
          rw [HF.out] at hr2
          obtain ⟨rfl, rfl⟩ := hr2
          have z17 := hw17.size
          clear hb17 hw4 z4
          have hen := fun w => eql_nil (E g) w
          go_wp2_with fail
          go_ret
          exact ⟨rfl, by (repeat' (first | with_reducible exact Below.refl _ _ | with_reducible assumption | with_reducible refine Below.drew ?_ | with_reducible refine below_drewN ?_ _ | with_reducible refine Below.setCell ?_ ?_ _ | with_reducible refine Below.alloc ?_ ?_ _ | omega | (simp; done) | (simp; omega)))⟩
        · rename_i m
          have HF := Lib.hid hf
          have hm := HT.out _ hf
          clear hf
          have HM : Hid (m = base - (0)) := by show _ = _; omega
          clear hm
          go_wp2_with fail
          refine (part_any base til frm num (-B) E _ ⟨Bbase1, Bbase2⟩ ⟨by omega, by omega⟩ ⟨by omega, by omega⟩ ⟨Bnum1, Bnum2⟩ ⟨by omega, by omega⟩ (HE.out.below (by (repeat' (first | with_reducible exact Below.refl _ _ | with_reducible assumption | with_reducible refine Below.drew ?_ | with_reducible refine below_drewN ?_ _ | with_reducible refine Below.setCell ?_ ?_ _ | with_reducible refine Below.alloc ?_ ?_ _ | omega | (simp; done) | (simp; omega)))))).mono ?_
          rintro e w18 ⟨⟨m2, err2, rfl, hr2⟩, hb18⟩
          have hw18 : Below w.heap.size w w18 := stepH (by (repeat' (first | with_reducible exact Below.refl _ _ | with_reducible assumption | with_reducible refine Below.drew ?_ | with_reducible refine below_drewN ?_ _ | with_reducible refine Below.setCell ?_ ?_ _ | with_reducible refine Below.alloc ?_ ?_ _ | omega | (simp; done) | (simp; omega)))) hb18
          rw [HF.out] at hr2
          obtain ⟨rfl, rfl⟩ := hr2
          rw [HM.out]
          have z18 := hw18.size
          clear hb18 hw4 z4
          go_wp2_with fail
          go_ret
          exact ⟨rfl, by (repeat' (first | with_reducible exact Below.refl _ _ | with_reducible assumption | with_reducible refine Below.drew ?_ | with_reducible refine below_drewN ?_ _ | with_reducible refine Below.setCell ?_ ?_ _ | with_reducible refine Below.alloc ?_ ?_ _ | omega | (simp; done) | (simp; omega)))⟩
      · have b5 : max Q (-Q) = Q := by omega
        have b6 : max (-Q) Q = Q := by omega
        have b7 : (Q != 0) = true := by rw [bne_iff_ne]; omega
        have b8 : decide (0 < Q) = true := decide_eq_true (by omega)
        have b9 : decide (0 < -A) = false := decide_eq_false (by omega)
        have b10 : decide (0 < -B) = false := decide_eq_false (by omega)
        have b11 : decide (Q < 0) = false := decide_eq_false (by omega)
        have b12 : decide (A < 0) = false := decide_eq_false (by omega)
        have b13 : decide (B < 0) = false := decide_eq_false (by omega)
        cases hf : partI base til frm num (-B)
        · rename_i g
          have HF := Lib.hid hf
          clear hf
          go_wp2_with fail
          refine (part_any base til frm num (-B) E _ ⟨Bbase1, Bbase2⟩ ⟨by omega, by omega⟩ ⟨by omega, by omega⟩ ⟨Bnum1, Bnum2⟩ ⟨by omega, by omega⟩ (HE.out.below (by (repeat' (first | with_reducible exact Below.refl _ _ | with_reducible assumption | with_reducible refine Below.drew ?_ | with_reducible refine below_drewN ?_ _ | with_reducible refine Below.setCell ?_ ?_ _ | with_reducible refine Below.alloc ?_ ?_ _ | omega | (simp; done) | (simp; omega)))))).mono ?_
          rintro e w19 ⟨⟨m, err2, rfl, hr2⟩, hb19⟩
          have hw19 : Below w.heap.size w w19 := stepH (by (repeat' (first | with_reducible exact Below.refl _ _ | with_reducible assumption | with_reducible refine Below.drew ?_ | with_reducible refine below_drewN ?_ _ | with_reducible refine Below.setCell ?_ ?_ _ | with_reducible refine Below.alloc ?_ ?_ _ | omega | (simp; done) | (simp; omega)))) hb19
          rw [HF.out] at hr2
          obtain ⟨rfl, rfl⟩ := hr2
          have z19 := hw19.size
          clear hb19 hw4 z4
          have hen := fun w => eql_nil (E g) w
          go_wp2_with fail
          go_ret
          exact ⟨rfl, by (repeat' (first | with_reducible exact Below.refl _ _ | with_reducible assumption | with_reducible refine Below.drew ?_ | with_reducible refine below_drewN ?_ _ | with_reducible refine Below.setCell ?_ ?_ _ | with_reducible refine Below.alloc ?_ ?_ _ | omega | (simp; done) | (simp; omega)))⟩
        · rename_i m
          have HF := Lib.hid hf
          have hm := HT.out _ hf
          clear hf
          have HM : Hid (m = base - (Q)) := by show _ = _; omega
          clear hm
          go_wp2_with fail
          refine (part_any base til frm num (-B) E _ ⟨Bbase1, Bbase2⟩ ⟨by omega, by omega⟩ ⟨by omega, by omega⟩ ⟨Bnum1, Bnum2⟩ ⟨by omega, by omega⟩ (HE.out.below (by (repeat' (first | with_reducible exact Below.refl _ _ | with_reducible assumption | with_reducible refine Below.drew ?_ | with_reducible refine below_drewN ?_ _ | with_reducible refine Below.setCell ?_ ?_ _ | with_reducible refine Below.alloc ?_ ?_ _ | omega | (simp; done) | (simp; omega)))))).mono ?_
          rintro e w20 ⟨⟨m2, err2, rfl, hr2⟩, hb20⟩
          have hw20 : Below w.heap.size w w20 := stepH (by (repeat' (first | with_reducible exact Below.refl _ _ | with_reducible assumption | with_reducible refine Below.drew ?_ | with_reducible refine below_drewN ?_ _ | with_reducible refine Below.setCell ?_ ?_ _ | with_reducible refine Below.alloc ?_ ?_ _ | omega | (simp; done) | (simp; omega)))) hb20
          rw [HF.out] at hr2
          obtain ⟨rfl, rfl⟩ := hr2
          rw [HM.out]
          have z20 := hw20.size
          clear hb20 hw4 z4
          go_wp2_with fail
          go_ret
          exact ⟨rfl, by (repeat' (first | with_reducible exact Below.refl _ _ | with_reducible assumption | with_reducible refine Below.drew ?_ | with_reducible refine below_drewN ?_ _ | with_reducible refine Below.setCell ?_ ?_ _ | with_reducible refine Below.alloc ?_ ?_ _ | omega | (simp; done) | (simp; omega)))⟩

end Go.Proofs.YtcbglkkmblmbnaaDoor
