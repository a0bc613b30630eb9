/- The walk of DayNext. -/
import Derived.Test.YthgdjocoiniphaaDoorDayNa
namespace Go.Proofs.YthgdjocoiniphaaDoor
open Go.RowKit

set_option maxRecDepth 100000 in
set_option maxHeartbeats 16000000 in
theorem dayNext_x (n : Int) (w : World) (h : n < 0) (hT : Tabs w) :
    Calls Tryd.prog 11 #[.int .i64 n] w fun e w' => e = .returned (.bool true) ∧ Below w.heap.size w w' := by
  have HF := Lib.hid (first3_any w hT)
  have e1 : decide (n < 0) = true := decide_eq_true h
  clear hT h
  go_enter Tryd.func11, Tryd.ntmps11
  go_wp2_with fail
  refine HF.out.mono ?_
  rintro e w1 ⟨rfl, hw1⟩
  go_wp2_with fail
  go_ret
  exact ⟨rfl, hw1⟩

set_option maxRecDepth 100000 in
set_option maxHeartbeats 16000000 in
theorem dayNext_y (n : Int) (w : World) (h2 : 3652058 ≤ n) (h3 : n < 9223372036854775807) (hT : Tabs w) :
    Calls Tryd.prog 11 #[.int .i64 n] w fun e w' => e = .returned (.bool true) ∧ Below w.heap.size w w' := by
  have HF := Lib.hid (first3_any w hT)
  have e1 : decide (n < 0) = false := decide_eq_false (by omega)
  have f1 : IntKind.i64.wrap (n + 1) = n + 1 := by rw [IntKind.wrap_i64]; omega
  have e2 : decide (3652059 ≤ n + 1) = true := decide_eq_true (by omega)
  clear hT
  go_enter Tryd.func11, Tryd.ntmps11
  go_wp2_with fail
  refine HF.out.mono ?_
  rintro e w1 ⟨rfl, hw1⟩
  go_wp2_with fail
  go_ret
  exact ⟨rfl, hw1⟩

set_option maxRecDepth 100000 in
set_option maxHeartbeats 16000000 in
theorem dayNext_z (n : Int) (w : World) (u0 : n ≤ 9223372036854775807) (h3 : 9223372036854775807 ≤ n) (hT : Tabs w) :
    Calls Tryd.prog 11 #[.int .i64 n] w fun e w' => e = .returned (.bool true) ∧ Below w.heap.size w w' := by
  have HF := Lib.hid (first3_any w hT)
  have e1 : decide (n < 0) = false := decide_eq_false (by omega)
  have f1 : IntKind.i64.wrap (n + 1) = -9223372036854775808 := by rw [IntKind.wrap_i64]; omega
  have e2 : decide ((3652059 : Int) ≤ -9223372036854775808) = false := by decide
  have e3 : decide (3652059 < n) = true := decide_eq_true (by omega)
  clear hT
  go_enter Tryd.func11, Tryd.ntmps11
  go_wp2_with fail
  refine HF.out.mono ?_
  rintro e w1 ⟨rfl, hw1⟩
  go_wp2_with fail
  go_ret
  exact ⟨rfl, hw1⟩

set_option maxRecDepth 100000 in
set_option maxHeartbeats 16000000 in
theorem dayNext_gp (n y d : Int) (k : Nat) (w : World) (h0 : 0 ≤ n) (h9 : n < 3652058) (hd1 : DateIs n y k d) (hd2 : DateIs (n + 1) y k (d + 1)) (hT : Tabs w) :
    Calls Tryd.prog 11 #[.int .i64 n] w fun e w' => e = .returned (.bool true) ∧ Below w.heap.size w w' := by
  have HF := Lib.hid (first3_any w hT)
  have HT := Lib.hid (fun (w' : World) (hb : Below w.heap.size w w') => hT.below hb)
  have HD1 := Lib.hid hd1
  have HD2 := Lib.hid hd2
  have hlen := dateS_len hd1
  have hyy := hd1.year
  have hkk := hd1.month
  have hdd := hd1.day
  have hl := lenK_pos y hkk
  obtain ⟨S, hS⟩ : ∃ S : ByteArray, (⟨(dateS y k d).toArray⟩ : ByteArray) = S := ⟨_, rfl⟩
  have hSz : S.size = 10 := by rw [← hS, ← hlen]; rfl
  have HS := Lib.hid hS
  have e1 : decide (n < 0) = false := decide_eq_false (by omega)
  have f1 : IntKind.i64.wrap (n + 1) = n + 1 := by rw [IntKind.wrap_i64]; omega
  have e2 : decide (3652059 ≤ n + 1) = false := decide_eq_false (by omega)
  have e3 : decide (3652059 < n) = false := decide_eq_false (by omega)
  have f2 : IntKind.i64.wrap (n % 7 + 1) = n % 7 + 1 := by rw [IntKind.wrap_i64]; omega
  have f3 : (n % 7 + 1).tmod 7 = (n + 1) % 7 := by rw [Int.tmod_eq_emod_of_nonneg (by omega)]; omega
  have f4 : (n % 7 + 1) % 7 = (n + 1) % 7 := by omega
  have g1 : ((k : Int) + 1 == (k : Int) + 1 + 1) = false := by rw [beq_eq_false_iff_ne]; omega
  have g2 : (y == y + 1) = false := by rw [beq_eq_false_iff_ne]; omega
  have g3 : IntKind.i64.wrap (d + 1) = d + 1 := by rw [IntKind.wrap_i64]; omega
  have g4 : IntKind.i64.wrap ((k : Int) + 1 + 1) = (k : Int) + 1 + 1 := by rw [IntKind.wrap_i64]; omega
  have g5 : IntKind.i64.wrap (y + 1) = y + 1 := by rw [IntKind.wrap_i64]; omega
  clear hT hd1 hd2 hlen hS
  go_enter Tryd.func11, Tryd.ntmps11
  go_wp2_with fail
  refine HF.out.mono ?_
  rintro e w1 ⟨rfl, hw1⟩
  go_wp2_with fail
  refine (date_ok n w1 h0 (by omega) (HT.out _ hw1)).mono ?_
  rintro e w2 ⟨⟨ya, da, ka, rfl, hda⟩, hb⟩
  obtain ⟨ea, eb, ec⟩ := HD1.out.uniq hda
  subst ea eb ec
  have hw2 : Below w.heap.size w w2 := stepH hw1 hb
  clear hb hda
  go_wp2_with fail
  refine (date_ok (n + 1) w2 (by omega) (by omega) (HT.out _ hw2)).mono ?_
  rintro e w3 ⟨⟨ya, da, ka, rfl, hda⟩, hb⟩
  obtain ⟨ea, eb, ec⟩ := HD2.out.uniq hda
  subst ea eb ec
  have hw3 : Below w.heap.size w w3 := stepH hw2 hb
  clear hb hda
  go_wp2_with fail
  refine (of_ok n y d k w3 HD1.out (HT.out _ hw3)).mono ?_
  rintro e w4 ⟨rfl, hb⟩
  have hw4 : Below w.heap.size w w4 := stepH hw3 hb
  clear hb
  go_wp2_with fail
  refine (print_ok n w4 h0 (by omega) (HT.out _ hw4)).mono ?_
  rintro e w5 ⟨⟨ya, da, ka, rfl, hda⟩, hb⟩
  obtain ⟨ea, eb, ec⟩ := HD1.out.uniq hda
  subst ea eb ec
  have hw5 : Below w.heap.size w w5 := stepH hw4 hb
  clear hb hda
  unfold strV
  rw [HS.out]
  go_wp2_with fail
  refine (show Calls Tryd.prog 69 #[.string S] w5 _ from by
    have h := parse_date n y d k w5 HD1.out (HT.out _ hw5)
    unfold strV at h
    rw [HS.out] at h
    exact h).mono ?_
  rintro e w6 ⟨rfl, hb⟩
  have hw6 : Below w.heap.size w w6 := stepH hw5 hb
  clear hb
  go_wp2_with fail
  refine (weekday_ok n w6 h0 (by omega)).mono ?_
  rintro e w7 ⟨rfl, hb⟩
  have hw7 : Below w.heap.size w w7 := stepH hw6 hb
  clear hb
  go_wp2_with fail
  refine (weekday_ok (n + 1) w7 (by omega) (by omega)).mono ?_
  rintro e w8 ⟨rfl, hb⟩
  have hw8 : Below w.heap.size w w8 := stepH hw7 hb
  clear hb
  go_wp2_with fail
  go_ret
  exact ⟨rfl, hw8⟩

set_option maxRecDepth 100000 in
set_option maxHeartbeats 16000000 in
theorem dayNext_gm (n y d : Int) (k : Nat) (w : World) (h0 : 0 ≤ n) (h9 : n < 3652058) (hd1 : DateIs n y k d) (hd2 : DateIs (n + 1) y (k + 1) 1) (h28 : 28 ≤ d) (hT : Tabs w) :
    Calls Tryd.prog 11 #[.int .i64 n] w fun e w' => e = .returned (.bool true) ∧ Below w.heap.size w w' := by
  have HF := Lib.hid (first3_any w hT)
  have HT := Lib.hid (fun (w' : World) (hb : Below w.heap.size w w') => hT.below hb)
  have HD1 := Lib.hid hd1
  have HD2 := Lib.hid hd2
  have hlen := dateS_len hd1
  have hyy := hd1.year
  have hkk := hd1.month
  have hdd := hd1.day
  have hl := lenK_pos y hkk
  have e28 : decide (28 ≤ d) = true := decide_eq_true h28
  obtain ⟨S, hS⟩ : ∃ S : ByteArray, (⟨(dateS y k d).toArray⟩ : ByteArray) = S := ⟨_, rfl⟩
  have hSz : S.size = 10 := by rw [← hS, ← hlen]; rfl
  have HS := Lib.hid hS
  have e1 : decide (n < 0) = false := decide_eq_false (by omega)
  have f1 : IntKind.i64.wrap (n + 1) = n + 1 := by rw [IntKind.wrap_i64]; omega
  have e2 : decide (3652059 ≤ n + 1) = false := decide_eq_false (by omega)
  have e3 : decide (3652059 < n) = false := decide_eq_false (by omega)
  have f2 : IntKind.i64.wrap (n % 7 + 1) = n % 7 + 1 := by rw [IntKind.wrap_i64]; omega
  have f3 : (n % 7 + 1).tmod 7 = (n + 1) % 7 := by rw [Int.tmod_eq_emod_of_nonneg (by omega)]; omega
  have f4 : (n % 7 + 1) % 7 = (n + 1) % 7 := by omega
  have g1 : ((k : Int) + 1 + 1 == (k : Int) + 1) = false := by rw [beq_eq_false_iff_ne]; omega
  have g2 : (y == y + 1) = false := by rw [beq_eq_false_iff_ne]; omega
  have g4 : IntKind.i64.wrap ((k : Int) + 1 + 1) = (k : Int) + 1 + 1 := by rw [IntKind.wrap_i64]; omega
  have g5 : IntKind.i64.wrap (y + 1) = y + 1 := by rw [IntKind.wrap_i64]; omega
  clear hT hd1 hd2 hlen hS
  go_enter Tryd.func11, Tryd.ntmps11
  go_wp2_with fail
  refine HF.out.mono ?_
  rintro e w1 ⟨rfl, hw1⟩
  go_wp2_with fail
  refine (date_ok n w1 h0 (by omega) (HT.out _ hw1)).mono ?_
  rintro e w2 ⟨⟨ya, da, ka, rfl, hda⟩, hb⟩
  obtain ⟨ea, eb, ec⟩ := HD1.out.uniq hda
  subst ea eb ec
  have hw2 : Below w.heap.size w w2 := stepH hw1 hb
  clear hb hda
  go_wp2_with fail
  refine (date_ok (n + 1) w2 (by omega) (by omega) (HT.out _ hw2)).mono ?_
  rintro e w3 ⟨⟨ya, da, ka, rfl, hda⟩, hb⟩
  obtain ⟨ea, eb, ec⟩ := HD2.out.uniq hda
  subst ea eb ec
  have hw3 : Below w.heap.size w w3 := stepH hw2 hb
  clear hb hda
  go_wp2_with fail
  refine (of_ok n y d k w3 HD1.out (HT.out _ hw3)).mono ?_
  rintro e w4 ⟨rfl, hb⟩
  have hw4 : Below w.heap.size w w4 := stepH hw3 hb
  clear hb
  go_wp2_with fail
  refine (print_ok n w4 h0 (by omega) (HT.out _ hw4)).mono ?_
  rintro e w5 ⟨⟨ya, da, ka, rfl, hda⟩, hb⟩
  obtain ⟨ea, eb, ec⟩ := HD1.out.uniq hda
  subst ea eb ec
  have hw5 : Below w.heap.size w w5 := stepH hw4 hb
  clear hb hda
  unfold strV
  rw [HS.out]
  go_wp2_with fail
  refine (show Calls Tryd.prog 69 #[.string S] w5 _ from by
    have h := parse_date n y d k w5 HD1.out (HT.out _ hw5)
    unfold strV at h
    rw [HS.out] at h
    exact h).mono ?_
  rintro e w6 ⟨rfl, hb⟩
  have hw6 : Below w.heap.size w w6 := stepH hw5 hb
  clear hb
  go_wp2_with fail
  refine (weekday_ok n w6 h0 (by omega)).mono ?_
  rintro e w7 ⟨rfl, hb⟩
  have hw7 : Below w.heap.size w w7 := stepH hw6 hb
  clear hb
  go_wp2_with fail
  refine (weekday_ok (n + 1) w7 (by omega) (by omega)).mono ?_
  rintro e w8 ⟨rfl, hb⟩
  have hw8 : Below w.heap.size w w8 := stepH hw7 hb
  clear hb
  go_wp2_with fail
  go_ret
  exact ⟨rfl, hw8⟩

set_option maxRecDepth 100000 in
set_option maxHeartbeats 16000000 in
theorem dayNext_gy (n y d y2 d2 : Int) (k k2 : Nat) (w : World) (h0 : 0 ≤ n) (h9 : n < 3652058) (hd1 : DateIs n y k d) (hd2 : DateIs (n + 1) y2 k2 d2) (hy : y2 = y + 1) (hm : k2 = 0) (hd : d2 = 1) (hk : k = 11) (h31 : d = 31) (hT : Tabs w) :
    Calls Tryd.prog 11 #[.int .i64 n] w fun e w' => e = .returned (.bool true) ∧ Below w.heap.size w w' := by
  have HF := Lib.hid (first3_any w hT)
  have HT := Lib.hid (fun (w' : World) (hb : Below w.heap.size w w') => hT.below hb)
  have HD1 := Lib.hid hd1
  have HD2 := Lib.hid hd2
  have hlen := dateS_len hd1
  have hyy := hd1.year
  have hkk := hd1.month
  have hdd := hd1.day
  have hl := lenK_pos y hkk
  subst hy hm hd hk h31
  obtain ⟨S, hS⟩ : ∃ S : ByteArray, (⟨(dateS y 11 31).toArray⟩ : ByteArray) = S := ⟨_, rfl⟩
  have hSz : S.size = 10 := by rw [← hS, ← hlen]; rfl
  have HS := Lib.hid hS
  have e1 : decide (n < 0) = false := decide_eq_false (by omega)
  have f1 : IntKind.i64.wrap (n + 1) = n + 1 := by rw [IntKind.wrap_i64]; omega
  have e2 : decide (3652059 ≤ n + 1) = false := decide_eq_false (by omega)
  have e3 : decide (3652059 < n) = false := decide_eq_false (by omega)
  have f2 : IntKind.i64.wrap (n % 7 + 1) = n % 7 + 1 := by rw [IntKind.wrap_i64]; omega
  have f3 : (n % 7 + 1).tmod 7 = (n + 1) % 7 := by rw [Int.tmod_eq_emod_of_nonneg (by omega)]; omega
  have f4 : (n % 7 + 1) % 7 = (n + 1) % 7 := by omega
  have g2 : (y + 1 == y) = false := by rw [beq_eq_false_iff_ne]; omega
  have g5 : IntKind.i64.wrap (y + 1) = y + 1 := by rw [IntKind.wrap_i64]; omega
  clear hT hd1 hd2 hlen hS
  go_enter Tryd.func11, Tryd.ntmps11
  go_wp2_with fail
  refine HF.out.mono ?_
  rintro e w1 ⟨rfl, hw1⟩
  go_wp2_with fail
  refine (date_ok n w1 h0 (by omega) (HT.out _ hw1)).mono ?_
  rintro e w2 ⟨⟨ya, da, ka, rfl, hda⟩, hb⟩
  obtain ⟨ea, eb, ec⟩ := HD1.out.uniq hda
  subst ea eb ec
  have hw2 : Below w.heap.size w w2 := stepH hw1 hb
  clear hb hda
  go_wp2_with fail
  refine (date_ok (n + 1) w2 (by omega) (by omega) (HT.out _ hw2)).mono ?_
  rintro e w3 ⟨⟨ya, da, ka, rfl, hda⟩, hb⟩
  obtain ⟨ea, eb, ec⟩ := HD2.out.uniq hda
  subst ea eb ec
  have hw3 : Below w.heap.size w w3 := stepH hw2 hb
  clear hb hda
  go_wp2_with fail
  refine (of_ok n y 31 11 w3 HD1.out (HT.out _ hw3)).mono ?_
  rintro e w4 ⟨rfl, hb⟩
  have hw4 : Below w.heap.size w w4 := stepH hw3 hb
  clear hb
  go_wp2_with fail
  refine (print_ok n w4 h0 (by omega) (HT.out _ hw4)).mono ?_
  rintro e w5 ⟨⟨ya, da, ka, rfl, hda⟩, hb⟩
  obtain ⟨ea, eb, ec⟩ := HD1.out.uniq hda
  subst ea eb ec
  have hw5 : Below w.heap.size w w5 := stepH hw4 hb
  clear hb hda
  unfold strV
  rw [HS.out]
  go_wp2_with fail
  refine (show Calls Tryd.prog 69 #[.string S] w5 _ from by
    have h := parse_date n y 31 11 w5 HD1.out (HT.out _ hw5)
    unfold strV at h
    rw [HS.out] at h
    exact h).mono ?_
  rintro e w6 ⟨rfl, hb⟩
  have hw6 : Below w.heap.size w w6 := stepH hw5 hb
  clear hb
  go_wp2_with fail
  refine (weekday_ok n w6 h0 (by omega)).mono ?_
  rintro e w7 ⟨rfl, hb⟩
  have hw7 : Below w.heap.size w w7 := stepH hw6 hb
  clear hb
  go_wp2_with fail
  refine (weekday_ok (n + 1) w7 (by omega) (by omega)).mono ?_
  rintro e w8 ⟨rfl, hb⟩
  have hw8 : Below w.heap.size w w8 := stepH hw7 hb
  clear hb
  go_wp2_with fail
  go_ret
  exact ⟨rfl, hw8⟩

theorem year_of (m : Int) (h0 : 0 ≤ m) (k : Nat) (h : m < aheadL ((k : Int) + 1)) : ∃ y : Int, 1 ≤ y ∧ y ≤ k ∧ aheadL y ≤ m ∧ m < aheadL (y + 1) := by
  induction k with
  | zero => rw [show ((0 : Nat) : Int) + 1 = 1 by omega, aheadL_one] at h; omega
  | succ k ih =>
    by_cases hlt : m < aheadL ((k : Int) + 1)
    · obtain ⟨y, h1, h2, h3⟩ := ih hlt
      exact ⟨y, h1, by omega, h3⟩
    · refine ⟨(k : Int) + 1, by omega, by omega, by omega, ?_⟩
      rw [show ((k + 1 : Nat) : Int) + 1 = (k : Int) + 1 + 1 by omega] at h
      exact h
theorem month_of (y r : Int) (h0 : 0 ≤ r) (k : Nat) (h : r < cumL y k) : ∃ j, j < k ∧ cumL y j ≤ r ∧ r < cumL y (j + 1) := by
  induction k with
  | zero => rw [cumL] at h; omega
  | succ k ih =>
    by_cases hlt : r < cumL y k
    · obtain ⟨j, h1, h2⟩ := ih hlt
      exact ⟨j, by omega, h2⟩
    · exact ⟨k, by omega, by omega, h⟩
theorem date_of (m : Int) (h0 : 0 ≤ m) (h9 : m < 3652059) : ∃ y d k, DateIs m y k d := by
  obtain ⟨y, h1, h2, h3, h4⟩ := year_of m h0 9999 (by rw [show ((9999 : Nat) : Int) + 1 = 10000 by omega, aheadL_top]; exact h9)
  have hs := aheadL_succ y
  obtain ⟨k, k1, k2, k3⟩ := month_of y (m - aheadL y) (by omega) 12 (by omega)
  have e : cumL y (k + 1) = cumL y k + lenK y k := rfl
  exact ⟨y, m - aheadL y - cumL y k + 1, k, ⟨h1, by omega⟩, k1, ⟨by omega, by omega⟩, by omega⟩

theorem dayNext_walk (n : Int) (w : World) (u0 : n ≤ 9223372036854775807) (hT : Tabs w) :
    Calls Tryd.prog 11 #[.int .i64 n] w fun e w' => e = .returned (.bool true) ∧ Below w.heap.size w w' := by
  by_cases h : n < 0
  · exact dayNext_x n w h hT
  · by_cases h2 : 3652058 ≤ n
    · by_cases h3 : n < 9223372036854775807
      · exact dayNext_y n w h2 h3 hT
      · exact dayNext_z n w u0 (by omega) hT
    · obtain ⟨y, d, k, hd⟩ := date_of n (by omega) (by omega)
      obtain ⟨y2, d2, k2, hd2⟩ := date_of (n + 1) (by omega) (by omega)
      rcases hd.next hd2 with ⟨a1, a2, a3⟩ | ⟨a1, a2, a3, a4⟩ | ⟨a1, a2, a3, a4, a5⟩
      · rw [a1, a2, a3] at hd2; exact dayNext_gp n y d k w (by omega) (by omega) hd hd2 hT
      · rw [a1, a2, a3] at hd2; exact dayNext_gm n y d k w (by omega) (by omega) hd hd2 a4 hT
      · exact dayNext_gy n y d y2 d2 k k2 w (by omega) (by omega) hd hd2 a1 a2 a3 a4 a5 hT

end Go.Proofs.YthgdjocoiniphaaDoor
