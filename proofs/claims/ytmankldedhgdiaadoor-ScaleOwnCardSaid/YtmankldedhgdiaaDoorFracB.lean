/- The walks of frac: lowest, Make, times. -/
import Derived.Test.YtmankldedhgdiaaDoorFracA
import Derived.Test.YtmankldedhgdiaaDoorShelf
import Derived.Deep.RegionHeld3
import Derived.BigRegion
namespace Go.Proofs.YtmankldedhgdiaaDoor
open Go.RowKit

theorem gcd_facts (num den : Nat) (h0 : 0 < den) : ∃ g a b : Nat, 0 < g ∧ num.gcd den = g ∧ (num : Int) / (g : Int) = a ∧ (den : Int) / (g : Int) = b ∧ num / g = a ∧ den / g = b ∧ a ≤ num ∧ 0 < b ∧ b ≤ den ∧ num = g * a ∧ den = g * b ∧ Nat.gcd a b = 1 := by
  have hg : 0 < Nat.gcd num den := Nat.gcd_pos_of_pos_right _ h0
  have d1 := Nat.gcd_dvd_left num den
  have d2 := Nat.gcd_dvd_right num den
  have hc : Nat.gcd (num / num.gcd den) (den / num.gcd den) = 1 := Nat.coprime_div_gcd_div_gcd hg
  refine ⟨num.gcd den, num / num.gcd den, den / num.gcd den, hg, rfl, (Int.natCast_ediv ..).symm, (Int.natCast_ediv ..).symm, rfl, rfl, Nat.div_le_self _ _, Nat.div_pos (Nat.le_of_dvd h0 d2) hg, Nat.div_le_self _ _, (Nat.mul_div_cancel' d1).symm, (Nat.mul_div_cancel' d2).symm, hc⟩

set_option maxHeartbeats 1000000 in
theorem lowest_any (minus : Bool) (num den : Nat) (E : Nat → Addr) (w : World) (h0 : 0 < den) (h1 : num ≤ 18446744073709551615) (h2 : den ≤ 18446744073709551615) (hE : Env LF E w) :
    Calls Tryd.prog 94 #[.bool minus, .int .u64 num, .int .u64 den] w fun e w' =>
      (∃ n d err, e = .returned (.tuple #[.agg #[.int .i64 n, .int .i64 d], err]) ∧ ResF E (goodR (signed minus (mkRat num den))) n d err) ∧ Below w.heap.size w w' := by
  obtain ⟨hc, hlt, _⟩ := hE.sent 5 (by decide)
  have Hc := commonU_any num den
  have hn := lowest_num num den (by omega)
  have hd := lowest_den num den (by omega)
  obtain ⟨g, a, b, hg, eg, e1, e2, f1, f2, la, pb, lb, m1, m2, hco⟩ := gcd_facts num den h0
  rw [eg, f1] at hn
  rw [eg, f2] at hd
  rw [eg] at Hc
  have HC := Lib.hid Hc
  have HN := Lib.hid hn
  have HD := Lib.hid hd
  clear Hc hn hd eg f1 f2 m1 m2 hco
  by_cases b1 : 1000000000000 < a
  · go_enter Tryd.func94, Tryd.ntmps94
    go_wp2_with (go_at_call 95; refine (HC.out _ (by omega) (by omega)).mono ?_; rintro e w' ⟨rfl, hb⟩)
    obtain ⟨k0, k1, k2⟩ := keepB hb (g := w.heap.size) (blk_new rfl)
    have hbw := ((Below.refl w.heap.size w).alloc (Nat.le_refl _) _).trans (hb.mono (by simp))
    have hc' := (hE.below hbw).cell 5 (by decide)
    have hne : w.heap.size ≠ 5 := by omega
    have hne1 : 5 < w.heap.size + 1 ∧ 5 < w.heap.size + 1 + 1 ∧ 5 < w.heap.size + 1 + 1 + 1 ∧ 5 < w.heap.size + 1 + 1 + 1 + 1 := by omega
    go_quiet (fail)
    go_wp2
    go_region
    all_goals go_wp2
    refine bodyPost_ret (v := .tuple #[.agg #[.int .i64 0, .int .i64 0], (.iface 122 (.pointer (some (E 5))))]) (by simp [results, Tryd.results94, go_sem, k0]) rfl ⟨⟨_, _, _, rfl, ?_⟩, ((below_drewN hbw _).setCell (by simp) _).setCell (by simp) _⟩
    exact resF_bad (by rw [signed_good minus HN.out HD.out]; omega)
  by_cases b2 : 1000000 < b
  · go_enter Tryd.func94, Tryd.ntmps94
    go_wp2_with (go_at_call 95; refine (HC.out _ (by omega) (by omega)).mono ?_; rintro e w' ⟨rfl, hb⟩)
    obtain ⟨k0, k1, k2⟩ := keepB hb (g := w.heap.size) (blk_new rfl)
    have hbw := ((Below.refl w.heap.size w).alloc (Nat.le_refl _) _).trans (hb.mono (by simp))
    have hc' := (hE.below hbw).cell 5 (by decide)
    have hne : w.heap.size ≠ 5 := by omega
    have hne1 : 5 < w.heap.size + 1 ∧ 5 < w.heap.size + 1 + 1 ∧ 5 < w.heap.size + 1 + 1 + 1 ∧ 5 < w.heap.size + 1 + 1 + 1 + 1 := by omega
    go_quiet (fail)
    go_wp2
    go_region
    all_goals go_wp2
    refine bodyPost_ret (v := .tuple #[.agg #[.int .i64 0, .int .i64 0], (.iface 122 (.pointer (some (E 5))))]) (by simp [results, Tryd.results94, go_sem, k0]) rfl ⟨⟨_, _, _, rfl, ?_⟩, ((below_drewN hbw _).setCell (by simp) _).setCell (by simp) _⟩
    exact resF_bad (by rw [signed_good minus HN.out HD.out]; omega)
  have hgood : Good (signed minus (mkRat num den)) := by rw [signed_good minus HN.out HD.out]; omega
  have HG := Lib.hid hgood
  clear hgood
  cases minus
  · go_enter Tryd.func94, Tryd.ntmps94
    go_wp2_with (go_at_call 95; refine (HC.out _ (by omega) (by omega)).mono ?_; rintro e w' ⟨rfl, hb⟩)
    obtain ⟨k0, k1, k2⟩ := keepB hb (g := w.heap.size) (blk_new rfl)
    have hbw := ((Below.refl w.heap.size w).alloc (Nat.le_refl _) _).trans (hb.mono (by simp))
    go_quiet (fail)
    go_wp2
    refine bodyPost_ret (v := .tuple #[.agg #[.int .i64 a, .int .i64 b], .nilIface]) (by simp [results, Tryd.results94, go_sem, k0]) rfl ⟨⟨_, _, _, rfl, ?_⟩, ((below_drewN hbw _).setCell (by simp) _).setCell (by simp) _⟩
    exact resF_good HG.out (by rw [signed_num, HN.out]; rfl) (by rw [signed_den, HD.out])
  · go_enter Tryd.func94, Tryd.ntmps94
    go_wp2_with (go_at_call 95; refine (HC.out _ (by omega) (by omega)).mono ?_; rintro e w' ⟨rfl, hb⟩)
    obtain ⟨k0, k1, k2⟩ := keepB hb (g := w.heap.size) (blk_new rfl)
    have hbw := ((Below.refl w.heap.size w).alloc (Nat.le_refl _) _).trans (hb.mono (by simp))
    go_quiet (fail)
    go_wp2
    refine bodyPost_ret (v := .tuple #[.agg #[.int .i64 (-a), .int .i64 b], .nilIface]) (by simp [results, Tryd.results94, go_sem, k0]) rfl ⟨⟨_, _, _, rfl, ?_⟩, ((below_drewN hbw _).setCell (by simp) _).setCell (by simp) _⟩
    exact resF_good HG.out (by rw [signed_num, HN.out]; rfl) (by rw [signed_den, HD.out])

set_option maxHeartbeats 1000000 in
theorem make_any (num den : Int) (E : Nat → Addr) (w : World) (n1 : -9223372036854775808 ≤ num) (n2 : num ≤ 9223372036854775807) (d1 : -9223372036854775808 ≤ den) (d2 : den ≤ 9223372036854775807) (hE : Env LF E w) :
    Calls Tryd.prog 82 #[.int .i64 num, .int .i64 den] w fun e w' =>
      (∃ n d err, e = .returned (.tuple #[.agg #[.int .i64 n, .int .i64 d], err]) ∧ ResF E (makeR num den) n d err) ∧ Below w.heap.size w w' := by
  by_cases h : den = 0
  · subst h
    obtain ⟨hc, hlt, _⟩ := hE.sent 4 (by decide)
    have hne : w.heap.size ≠ 4 := by omega
    have hne1 : 4 < w.heap.size + 1 ∧ 4 < w.heap.size + 1 + 1 ∧ 4 < w.heap.size + 1 + 1 + 1 ∧ 4 < w.heap.size + 1 + 1 + 1 + 1 := by omega
    go_enter Tryd.func82, Tryd.ntmps82
    go_wp2
    go_region
    all_goals go_wp2
    refine bodyPost_ret (v := .tuple #[.agg #[.int .i64 0, .int .i64 0], (.iface 122 (.pointer (some (E 4))))]) (by simp [results, Tryd.results82, go_sem]) rfl ⟨⟨_, _, _, rfl, rfl, rfl, rfl⟩, ?_⟩
    exact ((Below.refl _ _).alloc (Nat.le_refl _) _).drew
  · have HS := Lib.hid (divInt_signed num den)
    have hd : (den == 0) = false := by simpa using h
    have hm : makeR num den = goodR (Rat.divInt num den) := by unfold makeR; rw [if_neg h]
    have HM := Lib.hid hm
    clear hm
    go_enter Tryd.func82, Tryd.ntmps82
    go_wp2_with (first | (go_at_call 87; refine (size_any _ _ (by omega) (by omega)).mono ?_; rintro e w' ⟨rfl, rfl⟩) | (go_at_call 94; refine (lowest_any _ num.natAbs den.natAbs E _ (by omega) (by omega) (by omega) (hE.below ((Below.refl w.heap.size w).alloc (Nat.le_refl _) _))).mono ?_; rintro e w' ⟨⟨n, d, err, rfl, hr⟩, hb⟩; obtain ⟨k0, k1, k2⟩ := keepB hb (g := w.heap.size) (blk_new rfl)))
    refine bodyPost_ret (v := .tuple #[.agg #[.int .i64 n, .int .i64 d], err]) (by simp [results, Tryd.results82, go_sem, k0]) rfl ⟨⟨_, _, _, rfl, ?_⟩, ((((Below.refl w.heap.size w).alloc (Nat.le_refl _) _).trans (hb.mono (by simp))).setCell (by simp) _).setCell (by simp) _⟩
    rw [HM.out, ← HS.out]
    exact hr

/-- the two halves of a product -/
theorem mul64_named (x y : Nat) (hx : x < 18446744073709551616) (hy : y < 18446744073709551616) : ∃ hi lo : Nat, hi = x * y / 18446744073709551616 ∧ lo = x * y % 18446744073709551616 ∧
    ∀ w : World, Calls Tryd.prog 96 #[.int .u64 x, .int .u64 y] w fun e w' => e = .returned (.tuple #[.int .u64 hi, .int .u64 lo]) ∧ w' = w :=
  ⟨_, _, rfl, rfl, fun w => Tryd.bits_Mul64 x y hx hy w⟩

set_option maxHeartbeats 1000000 in
theorem times_any (minus : Bool) (a b c d : Nat) (E : Nat → Addr) (w : World) (pb : 0 < b) (pd : 0 < d) (la : a ≤ 1000000000000) (lb : b ≤ 1000000000000) (lc : c ≤ 1000000000000) (ld : d ≤ 1000000000000)
    (cab : Nat.gcd a b = 1) (ccd : Nat.gcd c d = 1) (hE : Env LF E w) :
    Calls Tryd.prog 86 #[.int .u64 a, .int .u64 b, .int .u64 c, .int .u64 d, .bool minus] w fun e w' =>
      (∃ n d' err, e = .returned (.tuple #[.agg #[.int .i64 n, .int .i64 d'], err]) ∧ ResF E (goodR (signed minus (mkRat (a * c : Nat) (b * d)))) n d' err) ∧ Below w.heap.size w w' := by
  have cU1 := commonU_any a d
  have cU2 := commonU_any c b
  obtain ⟨g, a1, d1, hg, eg, e1, e2, _, _, la1, pd1, ld1, m1, m2, _⟩ := gcd_facts a d pd
  obtain ⟨h, c1, b1, hh, eh, e3, e4, _, _, lc1, pb1, lb1, m3, m4, _⟩ := gcd_facts c b pb
  have MF := Lib.hid (mul_facts hg hh eg eh m1 m2 m3 m4 cab ccd pb1 pd1)
  rw [eg] at cU1
  rw [eh] at cU2
  have CU1 := Lib.hid cU1
  have CU2 := Lib.hid cU2
  obtain ⟨hi, lo, ehi, elo, cM1⟩ := mul64_named a1 c1 (by omega) (by omega)
  obtain ⟨over, lod, eov, eld, cM2⟩ := mul64_named b1 d1 (by omega) (by omega)
  have CM1 := Lib.hid cM1
  have CM2 := Lib.hid cM2
  have pos : 0 < b1 * d1 := Nat.mul_pos pb1 pd1
  have F : Hid (hi = a1 * c1 / 18446744073709551616 ∧ lo = a1 * c1 % 18446744073709551616 ∧ over = b1 * d1 / 18446744073709551616 ∧ lod = b1 * d1 % 18446744073709551616 ∧ 0 < b1 * d1) := ⟨ehi, elo, eov, eld, pos⟩
  have lo64 : lo ≤ 18446744073709551615 := by omega
  have lod64 : lod ≤ 18446744073709551615 := by omega
  clear cU1 cU2 cM1 cM2 ehi elo eov eld pos eg eh m1 m2 m3 m4
  obtain ⟨_, hlt, _⟩ := hE.sent 5 (by decide)
  have hne : w.heap.size ≠ 5 := by omega
  have hne1 : 5 < w.heap.size + 1 ∧ 5 < w.heap.size + 1 + 1 ∧ 5 < w.heap.size + 1 + 1 + 1 ∧ 5 < w.heap.size + 1 + 1 + 1 + 1 := by omega
  have five : 0 < hi ∨ (hi = 0 ∧ 0 < over) ∨ (hi = 0 ∧ over = 0 ∧ 1000000000000 < lo) ∨ (hi = 0 ∧ over = 0 ∧ lo ≤ 1000000000000 ∧ 1000000 < lod) ∨ (hi = 0 ∧ over = 0 ∧ lo ≤ 1000000000000 ∧ lod ≤ 1000000) := by omega
  have NG : ¬ (hi = 0 ∧ over = 0 ∧ lo ≤ 1000000000000 ∧ lod ≤ 1000000) → Hid (¬ Good (signed minus (mkRat (a * c : Nat) (b * d)))) := fun hbad => by
    obtain ⟨q1, q2, q3⟩ := MF.out
    have f := F.out
    show ¬ _
    rw [q1, signed_good minus q2 q3]
    omega
  have NH := Lib.hid NG
  clear NG
  go_enter Tryd.func86, Tryd.ntmps86
  go_wp2_with fail
  refine (CU1.out _ (by omega) (by omega)).mono ?_; rintro e w1 ⟨rfl, hb1⟩
  go_wp2_with fail
  refine (CU2.out _ (by omega) (by omega)).mono ?_; rintro e w2 ⟨rfl, hb2⟩
  have hw2 := hb1.trans (hb2.mono hb1.size)
  clear hb1 hb2
  go_wp2_with fail
  go_quiet ((go_at_call 96; exact Calls.quiet_of_same (CM1.out _)))
  generalize hw3 : w2.drewN nq = w3
  have hb3 := hw3 ▸ below_drewN hw2 nq
  clear hw3 hw2
  go_wp2_with fail
  go_quiet ((go_at_call 96; exact Calls.quiet_of_same (CM2.out _)))
  generalize hw4 : w3.drewN nq = w4
  have hb4 := hw4 ▸ below_drewN hb3 nq
  clear hw4 hb3
  have hbw := ((Below.refl w.heap.size w).alloc (Nat.le_refl _) _).trans (hb4.mono (by simp))
  rcases five with x | ⟨rfl, x⟩ | ⟨rfl, rfl, x⟩ | ⟨rfl, rfl, x, y⟩ | ⟨rfl, rfl, x, y⟩
  case inr.inr.inr.inr =>
    have pl : 0 < lod := by have := F.out; omega
    go_wp2_with fail
    refine (lowest_any minus lo lod E w4 pl lo64 lod64 (hE.below hbw)).mono ?_
    rintro e w5 ⟨⟨n, d', err, rfl, hr⟩, hb5⟩
    obtain ⟨j0, j1, j2⟩ := keepB (hb4.trans (hb5.mono hb4.size)) (g := w.heap.size) (blk_new rfl)
    go_wp2_with fail
    refine bodyPost_ret (v := .tuple #[.agg #[.int .i64 n, .int .i64 d'], err]) (by simp [results, Tryd.results86, go_sem, j0]) rfl ⟨⟨_, _, _, rfl, ?_⟩, ((hbw.trans (hb5.mono hbw.size)).setCell (by simp) _).setCell (by simp) _⟩
    have f := F.out
    obtain ⟨q1, q2, q3⟩ := MF.out
    have e5 : a1 * c1 = lo := by omega
    have e6 : b1 * d1 = lod := by omega
    rw [q1, e5, e6]
    exact hr
  all_goals
    obtain ⟨k0, k1, k2⟩ := keepB hb4 (g := w.heap.size) (blk_new rfl)
    have hc' := (hE.below hbw).cell 5 (by decide)
    go_wp2_with fail
    go_region
    go_wp2_with fail
    refine bodyPost_ret (v := .tuple #[.agg #[.int .i64 0, .int .i64 0], (.iface 122 (.pointer (some (E 5))))]) (by simp [results, Tryd.results86, go_sem, k0]) rfl ⟨⟨_, _, _, rfl, ?_⟩, (hbw.drew.setCell (by simp) _).setCell (by simp) _⟩
    exact resF_bad (Hid.out (NH.out (by omega)))
end Go.Proofs.YtmankldedhgdiaaDoor
