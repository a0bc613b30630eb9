/- The walk of IndexRises. -/
import Derived.Test.YtcbglkkmblmbnaaDoorIndexG
import Derived.Test.YtcbglkkmblmbnaaDoorIndexLaw
namespace Go.Proofs.YtcbglkkmblmbnaaDoor
open Go.RowKit

set_option maxRecDepth 100000 in
set_option maxHeartbeats 16000000 in
theorem indexRises_walk (a b fn fd unit mode : Int) (E : Nat → Addr) (w : World) (Ba : -9223372036854775808 ≤ a ∧ a ≤ 9223372036854775807) (Bb : -9223372036854775808 ≤ b ∧ b ≤ 9223372036854775807) (Bfn : -9223372036854775808 ≤ fn ∧ fn ≤ 9223372036854775807) (Bfd : -9223372036854775808 ≤ fd ∧ fd ≤ 9223372036854775807) (Bunit : -9223372036854775808 ≤ unit ∧ unit ≤ 9223372036854775807) (Bmode : -9223372036854775808 ≤ mode ∧ mode ≤ 9223372036854775807) (hE : Env LI E w) :
    Calls Tryd.prog 8 #[.int .i64 a, .int .i64 b, .agg #[.int .i64 fn, .int .i64 fd], .int .i64 unit, .int .i64 mode] w fun e w' => e = .returned (.bool true) ∧ Below w.heap.size w w' := by
  obtain ⟨Ba1, Ba2⟩ := Ba
  obtain ⟨Bb1, Bb2⟩ := Bb
  obtain ⟨Bfn1, Bfn2⟩ := Bfn
  obtain ⟨Bfd1, Bfd2⟩ := Bfd
  obtain ⟨Bunit1, Bunit2⟩ := Bunit
  obtain ⟨Bmode1, Bmode2⟩ := Bmode
  have HE := Lib.hid hE
  clear hE
  cases hg : growI a fn fd unit mode
  · rename_i g
    have HG := Lib.hid hg
    clear hg
    go_enter Tryd.func8, Tryd.ntmps8
    go_wp2_with fail
    refine (first16_any E _ (HE.out.below (by (repeat' (first | with_reducible exact Below.refl _ _ | with_reducible assumption | with_reducible refine Below.drew ?_ | with_reducible refine below_drewN ?_ _ | with_reducible refine Below.setCell ?_ ?_ _ | with_reducible refine Below.alloc ?_ ?_ _ | omega | (simp; done) | (simp; omega)))))).mono ?_
    rintro e w1 ⟨rfl, hb1⟩
    have hw1 : Below w.heap.size w w1 := stepH (by (repeat' (first | with_reducible exact Below.refl _ _ | with_reducible assumption | with_reducible refine Below.drew ?_ | with_reducible refine below_drewN ?_ _ | with_reducible refine Below.setCell ?_ ?_ _ | with_reducible refine Below.alloc ?_ ?_ _ | omega | (simp; done) | (simp; omega)))) hb1
    have F := keepH hb1 (g := w.heap.size) (blk_new rfl)
    have z1 := hw1.size
    clear hb1
    have cF := cellH F
    obtain ⟨lF, lF1, lF2⟩ := ltH F
    go_wp2_with fail
    refine (grow_any a fn fd unit mode E _ ⟨by omega, by omega⟩ ⟨by omega, by omega⟩ ⟨by omega, by omega⟩ ⟨by omega, by omega⟩ ⟨by omega, by omega⟩ (HE.out.below (by (repeat' (first | with_reducible exact Below.refl _ _ | with_reducible assumption | with_reducible refine Below.drew ?_ | with_reducible refine below_drewN ?_ _ | with_reducible refine Below.setCell ?_ ?_ _ | with_reducible refine Below.alloc ?_ ?_ _ | omega | (simp; done) | (simp; omega)))))).mono ?_
    rintro e w2 ⟨⟨n, err, rfl, hr⟩, hb2⟩
    have hw2 : Below w.heap.size w w2 := stepH (by (repeat' (first | with_reducible exact Below.refl _ _ | with_reducible assumption | with_reducible refine Below.drew ?_ | with_reducible refine below_drewN ?_ _ | with_reducible refine Below.setCell ?_ ?_ _ | with_reducible refine Below.alloc ?_ ?_ _ | omega | (simp; done) | (simp; omega)))) hb2
    rw [HG.out] at hr
    obtain ⟨rfl, rfl⟩ := hr
    replace F := keepH hb2 F.out
    have z2 := hw2.size
    clear hb2 hw1 z1
    clear cF lF lF1 lF2
    have cF := cellH F
    obtain ⟨lF, lF1, lF2⟩ := ltH F
    go_wp2_with fail
    refine (grow_any b fn fd unit mode E _ ⟨by omega, by omega⟩ ⟨by omega, by omega⟩ ⟨by omega, by omega⟩ ⟨by omega, by omega⟩ ⟨by omega, by omega⟩ (HE.out.below (by (repeat' (first | with_reducible exact Below.refl _ _ | with_reducible assumption | with_reducible refine Below.drew ?_ | with_reducible refine below_drewN ?_ _ | with_reducible refine Below.setCell ?_ ?_ _ | with_reducible refine Below.alloc ?_ ?_ _ | omega | (simp; done) | (simp; omega)))))).mono ?_
    rintro e w3 ⟨⟨m, err2, rfl, hr2⟩, hb3⟩
    have hw3 : Below w.heap.size w w3 := stepH (by (repeat' (first | with_reducible exact Below.refl _ _ | with_reducible assumption | with_reducible refine Below.drew ?_ | with_reducible refine below_drewN ?_ _ | with_reducible refine Below.setCell ?_ ?_ _ | with_reducible refine Below.alloc ?_ ?_ _ | omega | (simp; done) | (simp; omega)))) hb3
    clear hr2
    replace F := keepH hb3 F.out
    have z3 := hw3.size
    clear hb3 hw2 z2
    clear cF lF lF1 lF2
    have cF := cellH F
    obtain ⟨lF, lF1, lF2⟩ := ltH F
    have hen := fun w => eql_nil (E g) w
    go_wp2_with fail
    go_ret
    exact ⟨rfl, by (repeat' (first | with_reducible exact Below.refl _ _ | with_reducible assumption | with_reducible refine Below.drew ?_ | with_reducible refine below_drewN ?_ _ | with_reducible refine Below.setCell ?_ ?_ _ | with_reducible refine Below.alloc ?_ ?_ _ | omega | (simp; done) | (simp; omega)))⟩
  · rename_i n
    obtain ⟨f, hf, rfl, rfl, m1, m2, u1, u2, a1, a2, _, _, gn⟩ := grow_ok hg
    have HNeg := Lib.hid (grow_neg hg)
    have HG := Lib.hid hg
    have BF := bds hf
    have NF := num_le hf
    obtain ⟨n1, n2, _⟩ := gn
    rw [Rat.num_intCast] at n1 n2
    clear hf
    have HM := Lib.hid (fun m h => (⟨fun h0 h1 => grow_le hg h h0 h1, fun h0 h1 => grow_le h hg h0 h1⟩ : (0 ≤ f.num → a ≤ b → n ≤ m) ∧ (0 ≤ f.num → b ≤ a → m ≤ n)))
    clear hg
    have hone : unit ≤ 1000000 → -1000000 < a → a < 1000000 → growI (a * unit) 1 1 unit mode = .ok (a * unit) ∧ -1000000000000 ≤ a * unit ∧ a * unit ≤ 1000000000000 := fun h h3 h4 => ⟨grow_one m1 m2 u1 h h3 h4, by have h := Nat.mul_le_mul (show a.natAbs ≤ 1000000 by omega) (show unit.natAbs ≤ 1000000 by omega); rw [← Int.natAbs_mul] at h; omega, by have h := Nat.mul_le_mul (show a.natAbs ≤ 1000000 by omega) (show unit.natAbs ≤ 1000000 by omega); rw [← Int.natAbs_mul] at h; omega⟩
    have HO := Lib.hid hone
    clear hone
    generalize f.num = N at *
    generalize (f.den : Int) = D at *
    go_enter Tryd.func8, Tryd.ntmps8
    go_wp2_with fail
    refine (first16_any E _ (HE.out.below (by (repeat' (first | with_reducible exact Below.refl _ _ | with_reducible assumption | with_reducible refine Below.drew ?_ | with_reducible refine below_drewN ?_ _ | with_reducible refine Below.setCell ?_ ?_ _ | with_reducible refine Below.alloc ?_ ?_ _ | omega | (simp; done) | (simp; omega)))))).mono ?_
    rintro e w4 ⟨rfl, hb4⟩
    have hw4 : Below w.heap.size w w4 := stepH (by (repeat' (first | with_reducible exact Below.refl _ _ | with_reducible assumption | with_reducible refine Below.drew ?_ | with_reducible refine below_drewN ?_ _ | with_reducible refine Below.setCell ?_ ?_ _ | with_reducible refine Below.alloc ?_ ?_ _ | omega | (simp; done) | (simp; omega)))) hb4
    have F := keepH hb4 (g := w.heap.size) (blk_new rfl)
    have z4 := hw4.size
    clear hb4
    have cF := cellH F
    obtain ⟨lF, lF1, lF2⟩ := ltH F
    go_wp2_with fail
    refine (grow_any a N D unit mode E _ ⟨by omega, by omega⟩ ⟨by omega, by omega⟩ ⟨by omega, by omega⟩ ⟨by omega, by omega⟩ ⟨by omega, by omega⟩ (HE.out.below (by (repeat' (first | with_reducible exact Below.refl _ _ | with_reducible assumption | with_reducible refine Below.drew ?_ | with_reducible refine below_drewN ?_ _ | with_reducible refine Below.setCell ?_ ?_ _ | with_reducible refine Below.alloc ?_ ?_ _ | omega | (simp; done) | (simp; omega)))))).mono ?_
    rintro e w5 ⟨⟨n, err, rfl, hr⟩, hb5⟩
    have hw5 : Below w.heap.size w w5 := stepH (by (repeat' (first | with_reducible exact Below.refl _ _ | with_reducible assumption | with_reducible refine Below.drew ?_ | with_reducible refine below_drewN ?_ _ | with_reducible refine Below.setCell ?_ ?_ _ | with_reducible refine Below.alloc ?_ ?_ _ | omega | (simp; done) | (simp; omega)))) hb5
    rw [HG.out] at hr
    obtain ⟨rfl, rfl⟩ := hr
    replace F := keepH hb5 F.out
    have z5 := hw5.size
    clear hb5 hw4 z4
    clear cF lF lF1 lF2
    have cF := cellH F
    obtain ⟨lF, lF1, lF2⟩ := ltH F
    go_wp2_with fail
    refine (grow_any b N D unit mode E _ ⟨by omega, by omega⟩ ⟨by omega, by omega⟩ ⟨by omega, by omega⟩ ⟨by omega, by omega⟩ ⟨by omega, by omega⟩ (HE.out.below (by (repeat' (first | with_reducible exact Below.refl _ _ | with_reducible assumption | with_reducible refine Below.drew ?_ | with_reducible refine below_drewN ?_ _ | with_reducible refine Below.setCell ?_ ?_ _ | with_reducible refine Below.alloc ?_ ?_ _ | omega | (simp; done) | (simp; omega)))))).mono ?_
    rintro e w6 ⟨⟨m, err2, rfl, hr2⟩, hb6⟩
    have hw6 : Below w.heap.size w w6 := stepH (by (repeat' (first | with_reducible exact Below.refl _ _ | with_reducible assumption | with_reducible refine Below.drew ?_ | with_reducible refine below_drewN ?_ _ | with_reducible refine Below.setCell ?_ ?_ _ | with_reducible refine Below.alloc ?_ ?_ _ | omega | (simp; done) | (simp; omega)))) hb6
    replace F := keepH hb6 F.out
    have z6 := hw6.size
    clear hb6 hw5 z5
    clear cF lF lF1 lF2
    have cF := cellH F
    obtain ⟨lF, lF1, lF2⟩ := ltH F
    go_upto_region 6 with fail
    go_cut [70] (fun s70 wx => s70 = .bool false ∧ Below w.heap.size w wx ∧ Hid (wx.heap[w.heap.size]? = some (.cells #[.int .i64 N, .int .i64 D] 30 (0, 0))))
    case first =>
      cases h2 : growI b N D unit mode
      · rename_i g2
        rw [h2] at hr2
        obtain ⟨rfl, rfl⟩ := hr2
        clear h2
        have hen := fun w => eql_nil (E g2) w
        go_wp2_with fail
        go_meet
        exact ⟨rfl, (by (repeat' (first | with_reducible exact Below.refl _ _ | with_reducible assumption | with_reducible refine Below.drew ?_ | with_reducible refine below_drewN ?_ _ | with_reducible refine Below.setCell ?_ ?_ _ | with_reducible refine Below.alloc ?_ ?_ _ | omega | (simp; done) | (simp; omega)))), F⟩
      · rename_i m'
        rw [h2] at hr2
        obtain ⟨rfl, rfl⟩ := hr2
        obtain ⟨j1, j2⟩ := HM.out _ h2
        clear h2 HM
        have hN : N < 0 ∨ 0 ≤ N := by omega
        rcases hN with hN | hN
        · go_wp2_with fail
          go_meet
          exact ⟨rfl, (by (repeat' (first | with_reducible exact Below.refl _ _ | with_reducible assumption | with_reducible refine Below.drew ?_ | with_reducible refine below_drewN ?_ _ | with_reducible refine Below.setCell ?_ ?_ _ | with_reducible refine Below.alloc ?_ ?_ _ | omega | (simp; done) | (simp; omega)))), F⟩
        · have tri : a < b ∨ a = b ∨ b < a := by omega
          rcases tri with tri | tri | tri
          · have k1 := j1 hN (by omega)
            have k2 : decide (m < n) = false := decide_eq_false (by omega)
            clear j1 j2
            go_wp2_with fail
            go_meet
            exact ⟨rfl, (by (repeat' (first | with_reducible exact Below.refl _ _ | with_reducible assumption | with_reducible refine Below.drew ?_ | with_reducible refine below_drewN ?_ _ | with_reducible refine Below.setCell ?_ ?_ _ | with_reducible refine Below.alloc ?_ ?_ _ | omega | (simp; done) | (simp; omega)))), F⟩
          · subst tri
            obtain rfl : n = m := by have := j1 hN (by omega); have := j2 hN (by omega); omega
            clear j1 j2
            go_wp2_with fail
            go_meet
            exact ⟨rfl, (by (repeat' (first | with_reducible exact Below.refl _ _ | with_reducible assumption | with_reducible refine Below.drew ?_ | with_reducible refine below_drewN ?_ _ | with_reducible refine Below.setCell ?_ ?_ _ | with_reducible refine Below.alloc ?_ ?_ _ | omega | (simp; done) | (simp; omega)))), F⟩
          · have k1 := j2 hN (by omega)
            have k2 : decide (n < m) = false := decide_eq_false (by omega)
            clear j1 j2
            go_wp2_with fail
            go_meet
            exact ⟨rfl, (by (repeat' (first | with_reducible exact Below.refl _ _ | with_reducible assumption | with_reducible refine Below.drew ?_ | with_reducible refine below_drewN ?_ _ | with_reducible refine Below.setCell ?_ ?_ _ | with_reducible refine Below.alloc ?_ ?_ _ | omega | (simp; done) | (simp; omega)))), F⟩
    case rest =>
      as_aux_lemma =>
        clear cF lF lF1 lF2
        clear F
        obtain ⟨rfl, hw7, F⟩ := hcut
        obtain ⟨w7, rfl⟩ : ∃ x : World, x = wc := ⟨_, rfl⟩
        have z7 := hw7.size
        have cF := cellH F
        obtain ⟨lF, lF1, lF2⟩ := ltH F
        clear HM
        have hm : mode = 3 ∨ mode = 4 ∨ (mode ≠ 3 ∧ mode ≠ 4) := by omega
        rcases hm with rfl | rfl | ⟨hm3, hm4⟩
        · have HTM : Hid (turnM 3 = 4) := rfl
          have HT2 : Hid (growI (-a) N D unit (4) = .ok (-n)) := by rw [← HTM.out]; exact HNeg.out
          clear HNeg HTM
          go_wp2_with fail
          refine (grow_any (-a) N D unit (4) E _ ⟨by omega, by omega⟩ ⟨by omega, by omega⟩ ⟨by omega, by omega⟩ ⟨by omega, by omega⟩ ⟨by omega, by omega⟩ (HE.out.below (by (repeat' (first | with_reducible exact Below.refl _ _ | with_reducible assumption | with_reducible refine Below.drew ?_ | with_reducible refine below_drewN ?_ _ | with_reducible refine Below.setCell ?_ ?_ _ | with_reducible refine Below.alloc ?_ ?_ _ | omega | (simp; done) | (simp; omega)))))).mono ?_
          rintro e w8 ⟨⟨k, err3, rfl, hr3⟩, hb8⟩
          have hw8 : Below w.heap.size w w8 := stepH (by (repeat' (first | with_reducible exact Below.refl _ _ | with_reducible assumption | with_reducible refine Below.drew ?_ | with_reducible refine below_drewN ?_ _ | with_reducible refine Below.setCell ?_ ?_ _ | with_reducible refine Below.alloc ?_ ?_ _ | omega | (simp; done) | (simp; omega)))) hb8
          rw [HT2.out] at hr3
          obtain ⟨rfl, rfl⟩ := hr3
          clear HT2
          replace F := keepH hb8 F.out
          have z8 := hw8.size
          clear hb8 hw7 z7
          clear cF lF lF1 lF2
          have cF := cellH F
          obtain ⟨lF, lF1, lF2⟩ := ltH F
          by_cases ho : unit ≤ 1000000 ∧ -1000000 < a ∧ a < 1000000
          · obtain ⟨o1, o2, o3⟩ := ho
            obtain ⟨k1, k2, k3⟩ := HO.out o1 o2 o3
            have HK := Lib.hid k1
            clear k1
            go_wp2_with fail
            refine (fr16_any 1 1 _).mono ?_
            rintro e w9 ⟨rfl, hb9⟩
            have hw9 : Below w.heap.size w w9 := stepH (by (repeat' (first | with_reducible exact Below.refl _ _ | with_reducible assumption | with_reducible refine Below.drew ?_ | with_reducible refine below_drewN ?_ _ | with_reducible refine Below.setCell ?_ ?_ _ | with_reducible refine Below.alloc ?_ ?_ _ | omega | (simp; done) | (simp; omega)))) hb9
            replace F := keepH hb9 F.out
            have z9 := hw9.size
            clear hb9 hw8 z8
            clear cF lF lF1 lF2
            have cF := cellH F
            obtain ⟨lF, lF1, lF2⟩ := ltH F
            go_wp2_with fail
            refine (grow_any (a * unit) 1 1 unit 3 E _ ⟨by omega, by omega⟩ ⟨by omega, by omega⟩ ⟨by omega, by omega⟩ ⟨by omega, by omega⟩ ⟨by omega, by omega⟩ (HE.out.below (by (repeat' (first | with_reducible exact Below.refl _ _ | with_reducible assumption | with_reducible refine Below.drew ?_ | with_reducible refine below_drewN ?_ _ | with_reducible refine Below.setCell ?_ ?_ _ | with_reducible refine Below.alloc ?_ ?_ _ | omega | (simp; done) | (simp; omega)))))).mono ?_
            rintro e w10 ⟨⟨k, err3, rfl, hr3⟩, hb10⟩
            have hw10 : Below w.heap.size w w10 := stepH (by (repeat' (first | with_reducible exact Below.refl _ _ | with_reducible assumption | with_reducible refine Below.drew ?_ | with_reducible refine below_drewN ?_ _ | with_reducible refine Below.setCell ?_ ?_ _ | with_reducible refine Below.alloc ?_ ?_ _ | omega | (simp; done) | (simp; omega)))) hb10
            rw [HK.out] at hr3
            obtain ⟨rfl, rfl⟩ := hr3
            clear HK
            replace F := keepH hb10 F.out
            have z10 := hw10.size
            clear hb10 hw9 z9
            clear cF lF lF1 lF2
            have cF := cellH F
            obtain ⟨lF, lF1, lF2⟩ := ltH F
            go_wp2_with fail
            go_ret
            exact ⟨rfl, by (repeat' (first | with_reducible exact Below.refl _ _ | with_reducible assumption | with_reducible refine Below.drew ?_ | with_reducible refine below_drewN ?_ _ | with_reducible refine Below.setCell ?_ ?_ _ | with_reducible refine Below.alloc ?_ ?_ _ | omega | (simp; done) | (simp; omega)))⟩
          · have three : 1000000 < unit ∨ (unit ≤ 1000000 ∧ a ≤ -1000000) ∨ (unit ≤ 1000000 ∧ -1000000 < a ∧ 1000000 ≤ a) := by omega
            clear ho
            rcases three with t1 | ⟨t1, t2⟩ | ⟨t1, t2, t3⟩
            all_goals
              go_wp2_with fail
              go_ret
              exact ⟨rfl, by (repeat' (first | with_reducible exact Below.refl _ _ | with_reducible assumption | with_reducible refine Below.drew ?_ | with_reducible refine below_drewN ?_ _ | with_reducible refine Below.setCell ?_ ?_ _ | with_reducible refine Below.alloc ?_ ?_ _ | omega | (simp; done) | (simp; omega)))⟩
        · have HTM : Hid (turnM 4 = 3) := rfl
          have HT2 : Hid (growI (-a) N D unit (3) = .ok (-n)) := by rw [← HTM.out]; exact HNeg.out
          clear HNeg HTM
          go_wp2_with fail
          refine (grow_any (-a) N D unit (3) E _ ⟨by omega, by omega⟩ ⟨by omega, by omega⟩ ⟨by omega, by omega⟩ ⟨by omega, by omega⟩ ⟨by omega, by omega⟩ (HE.out.below (by (repeat' (first | with_reducible exact Below.refl _ _ | with_reducible assumption | with_reducible refine Below.drew ?_ | with_reducible refine below_drewN ?_ _ | with_reducible refine Below.setCell ?_ ?_ _ | with_reducible refine Below.alloc ?_ ?_ _ | omega | (simp; done) | (simp; omega)))))).mono ?_
          rintro e w11 ⟨⟨k, err3, rfl, hr3⟩, hb11⟩
          have hw11 : Below w.heap.size w w11 := stepH (by (repeat' (first | with_reducible exact Below.refl _ _ | with_reducible assumption | with_reducible refine Below.drew ?_ | with_reducible refine below_drewN ?_ _ | with_reducible refine Below.setCell ?_ ?_ _ | with_reducible refine Below.alloc ?_ ?_ _ | omega | (simp; done) | (simp; omega)))) hb11
          rw [HT2.out] at hr3
          obtain ⟨rfl, rfl⟩ := hr3
          clear HT2
          replace F := keepH hb11 F.out
          have z11 := hw11.size
          clear hb11 hw7 z7
          clear cF lF lF1 lF2
          have cF := cellH F
          obtain ⟨lF, lF1, lF2⟩ := ltH F
          by_cases ho : unit ≤ 1000000 ∧ -1000000 < a ∧ a < 1000000
          · obtain ⟨o1, o2, o3⟩ := ho
            obtain ⟨k1, k2, k3⟩ := HO.out o1 o2 o3
            have HK := Lib.hid k1
            clear k1
            go_wp2_with fail
            refine (fr16_any 1 1 _).mono ?_
            rintro e w12 ⟨rfl, hb12⟩
            have hw12 : Below w.heap.size w w12 := stepH (by (repeat' (first | with_reducible exact Below.refl _ _ | with_reducible assumption | with_reducible refine Below.drew ?_ | with_reducible refine below_drewN ?_ _ | with_reducible refine Below.setCell ?_ ?_ _ | with_reducible refine Below.alloc ?_ ?_ _ | omega | (simp; done) | (simp; omega)))) hb12
            replace F := keepH hb12 F.out
            have z12 := hw12.size
            clear hb12 hw11 z11
            clear cF lF lF1 lF2
            have cF := cellH F
            obtain ⟨lF, lF1, lF2⟩ := ltH F
            go_wp2_with fail
            refine (grow_any (a * unit) 1 1 unit 4 E _ ⟨by omega, by omega⟩ ⟨by omega, by omega⟩ ⟨by omega, by omega⟩ ⟨by omega, by omega⟩ ⟨by omega, by omega⟩ (HE.out.below (by (repeat' (first | with_reducible exact Below.refl _ _ | with_reducible assumption | with_reducible refine Below.drew ?_ | with_reducible refine below_drewN ?_ _ | with_reducible refine Below.setCell ?_ ?_ _ | with_reducible refine Below.alloc ?_ ?_ _ | omega | (simp; done) | (simp; omega)))))).mono ?_
            rintro e w13 ⟨⟨k, err3, rfl, hr3⟩, hb13⟩
            have hw13 : Below w.heap.size w w13 := stepH (by (repeat' (first | with_reducible exact Below.refl _ _ | with_reducible assumption | with_reducible refine Below.drew ?_ | with_reducible refine below_drewN ?_ _ | with_reducible refine Below.setCell ?_ ?_ _ | with_reducible refine Below.alloc ?_ ?_ _ | omega | (simp; done) | (simp; omega)))) hb13
            rw [HK.out] at hr3
            obtain ⟨rfl, rfl⟩ := hr3
            clear HK
            replace F := keepH hb13 F.out
            have z13 := hw13.size
            clear hb13 hw12 z12
            clear cF lF lF1 lF2
            have cF := cellH F
            obtain ⟨lF, lF1, lF2⟩ := ltH F
            go_wp2_with fail
            go_ret
            exact ⟨rfl, by (repeat' (first | with_reducible exact Below.refl _ _ | with_reducible assumption | with_reducible refine Below.drew ?_ | with_reducible refine below_drewN ?_ _ | with_reducible refine Below.setCell ?_ ?_ _ | with_reducible refine Below.alloc ?_ ?_ _ | omega | (simp; done) | (simp; omega)))⟩
          · have three : 1000000 < unit ∨ (unit ≤ 1000000 ∧ a ≤ -1000000) ∨ (unit ≤ 1000000 ∧ -1000000 < a ∧ 1000000 ≤ a) := by omega
            clear ho
            rcases three with t1 | ⟨t1, t2⟩ | ⟨t1, t2, t3⟩
            all_goals
              go_wp2_with fail
              go_ret
              exact ⟨rfl, by (repeat' (first | with_reducible exact Below.refl _ _ | with_reducible assumption | with_reducible refine Below.drew ?_ | with_reducible refine below_drewN ?_ _ | with_reducible refine Below.setCell ?_ ?_ _ | with_reducible refine Below.alloc ?_ ?_ _ | omega | (simp; done) | (simp; omega)))⟩
        · have hm3' : (mode == 3) = false := by simpa using hm3
          have hm4' : (mode == 4) = false := by simpa using hm4
          have HTM : Hid (turnM mode = mode) := by show _ = _; unfold turnM; rw [if_neg hm3, if_neg hm4]
          clear hm3 hm4
          have HT2 : Hid (growI (-a) N D unit (mode) = .ok (-n)) := by rw [← HTM.out]; exact HNeg.out
          clear HNeg HTM
          go_wp2_with fail
          refine (grow_any (-a) N D unit (mode) E _ ⟨by omega, by omega⟩ ⟨by omega, by omega⟩ ⟨by omega, by omega⟩ ⟨by omega, by omega⟩ ⟨by omega, by omega⟩ (HE.out.below (by (repeat' (first | with_reducible exact Below.refl _ _ | with_reducible assumption | with_reducible refine Below.drew ?_ | with_reducible refine below_drewN ?_ _ | with_reducible refine Below.setCell ?_ ?_ _ | with_reducible refine Below.alloc ?_ ?_ _ | omega | (simp; done) | (simp; omega)))))).mono ?_
          rintro e w14 ⟨⟨k, err3, rfl, hr3⟩, hb14⟩
          have hw14 : Below w.heap.size w w14 := stepH (by (repeat' (first | with_reducible exact Below.refl _ _ | with_reducible assumption | with_reducible refine Below.drew ?_ | with_reducible refine below_drewN ?_ _ | with_reducible refine Below.setCell ?_ ?_ _ | with_reducible refine Below.alloc ?_ ?_ _ | omega | (simp; done) | (simp; omega)))) hb14
          rw [HT2.out] at hr3
          obtain ⟨rfl, rfl⟩ := hr3
          clear HT2
          replace F := keepH hb14 F.out
          have z14 := hw14.size
          clear hb14 hw7 z7
          clear cF lF lF1 lF2
          have cF := cellH F
          obtain ⟨lF, lF1, lF2⟩ := ltH F
          by_cases ho : unit ≤ 1000000 ∧ -1000000 < a ∧ a < 1000000
          · obtain ⟨o1, o2, o3⟩ := ho
            obtain ⟨k1, k2, k3⟩ := HO.out o1 o2 o3
            have HK := Lib.hid k1
            clear k1
            go_wp2_with fail
            refine (fr16_any 1 1 _).mono ?_
            rintro e w15 ⟨rfl, hb15⟩
            have hw15 : Below w.heap.size w w15 := stepH (by (repeat' (first | with_reducible exact Below.refl _ _ | with_reducible assumption | with_reducible refine Below.drew ?_ | with_reducible refine below_drewN ?_ _ | with_reducible refine Below.setCell ?_ ?_ _ | with_reducible refine Below.alloc ?_ ?_ _ | omega | (simp; done) | (simp; omega)))) hb15
            replace F := keepH hb15 F.out
            have z15 := hw15.size
            clear hb15 hw14 z14
            clear cF lF lF1 lF2
            have cF := cellH F
            obtain ⟨lF, lF1, lF2⟩ := ltH F
            go_wp2_with fail
            refine (grow_any (a * unit) 1 1 unit mode E _ ⟨by omega, by omega⟩ ⟨by omega, by omega⟩ ⟨by omega, by omega⟩ ⟨by omega, by omega⟩ ⟨by omega, by omega⟩ (HE.out.below (by (repeat' (first | with_reducible exact Below.refl _ _ | with_reducible assumption | with_reducible refine Below.drew ?_ | with_reducible refine below_drewN ?_ _ | with_reducible refine Below.setCell ?_ ?_ _ | with_reducible refine Below.alloc ?_ ?_ _ | omega | (simp; done) | (simp; omega)))))).mono ?_
            rintro e w16 ⟨⟨k, err3, rfl, hr3⟩, hb16⟩
            have hw16 : Below w.heap.size w w16 := stepH (by (repeat' (first | with_reducible exact Below.refl _ _ | with_reducible assumption | with_reducible refine Below.drew ?_ | with_reducible refine below_drewN ?_ _ | with_reducible refine Below.setCell ?_ ?_ _ | with_reducible refine Below.alloc ?_ ?_ _ | omega | (simp; done) | (simp; omega)))) hb16
            rw [HK.out] at hr3
            obtain ⟨rfl, rfl⟩ := hr3
            clear HK
            replace F := keepH hb16 F.out
            have z16 := hw16.size
            clear hb16 hw15 z15
            clear cF lF lF1 lF2
            have cF := cellH F
            obtain ⟨lF, lF1, lF2⟩ := ltH F
            go_wp2_with fail
            go_ret
            exact ⟨rfl, by (repeat' (first | with_reducible exact Below.refl _ _ | with_reducible assumption | with_reducible refine Below.drew ?_ | with_reducible refine below_drewN ?_ _ | with_reducible refine Below.setCell ?_ ?_ _ | with_reducible refine Below.alloc ?_ ?_ _ | omega | (simp; done) | (simp; omega)))⟩
          · have three : 1000000 < unit ∨ (unit ≤ 1000000 ∧ a ≤ -1000000) ∨ (unit ≤ 1000000 ∧ -1000000 < a ∧ 1000000 ≤ a) := by omega
            clear ho
            rcases three with t1 | ⟨t1, t2⟩ | ⟨t1, t2, t3⟩
            all_goals
              go_wp2_with fail
              go_ret
              exact ⟨rfl, by (repeat' (first | with_reducible exact Below.refl _ _ | with_reducible assumption | with_reducible refine Below.drew ?_ | with_reducible refine below_drewN ?_ _ | with_reducible refine Below.setCell ?_ ?_ _ | with_reducible refine Below.alloc ?_ ?_ _ | omega | (simp; done) | (simp; omega)))⟩

end Go.Proofs.YtcbglkkmblmbnaaDoor
