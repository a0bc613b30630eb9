/- The walks of round: so many units; whether a rounding may be -/
import Derived.Deep.DeepCutAuto
import Derived.Deep.RegionHeld3
import Derived.Deep.RegionWith
import Derived.Test.YtcbglkkmblmbnaaDoorRoundL
import Derived.Test.YtcbglkkmblmbnaaDoorRoundW
namespace Go.Proofs.YtcbglkkmblmbnaaDoor
open Go.RowKit

theorem set1 {w : World} {g i : Nat} {cs : Array Value} {t : TypeId} (h : Hid (w.heap[g]? = some (.cells cs t (0, 0)))) (u : Value) : Hid ((w.setCell ⟨g, i, none⟩ u).heap[g]? = some (.cells (cs.setIfInBounds i u) t (0, 0))) := by
  have h' : w.heap[g]? = some (.cells cs t (0, 0)) := h
  show _ = _
  simp [World.setCell, Array.getElem?_modify, h']
theorem set2of2 {w : World} {g : Nat} {x y v : Value} {t : TypeId} (h : Hid (w.heap[g]? = some (.cells #[x, y] t (0, 0)))) : Hid ((w.setCell ⟨g, 1, none⟩ v).heap[g]? = some (.cells #[x, v] t (0, 0))) := by
  have h' : w.heap[g]? = some (.cells #[x, y] t (0, 0)) := h
  show _ = _
  simp [World.setCell, Array.getElem?_modify, h']
theorem drewH {w : World} {g : Nat} {x : Option Obj} (h : Hid (w.heap[g]? = x)) : Hid (w.drew.heap[g]? = x) := h
theorem set1o {w : World} {g k i : Nat} {o : Obj} (h : Hid (w.heap[k]? = some o)) (hne : k ≠ g) (u : Value) : Hid ((w.setCell ⟨g, i, none⟩ u).heap[k]? = some o) := (Below.heap_setCell w ⟨g, i, none⟩ u k hne).trans h.out
theorem tdiv_neg' {k g a : Nat} (h : (k : Int) / (g : Int) = a) : (-(k : Int)).tdiv g = -(a : Int) := by rw [Int.neg_tdiv, Int.tdiv_eq_ediv_of_nonneg (by omega), h]
theorem makeR_pos {num den : Int} (h : den ≠ 0) : makeR num den = goodR (Rat.divInt num den) := by unfold makeR; rw [if_neg h]
theorem good_unit {a b un : Nat} (s : Int) (hs : s = a ∨ s = -(a : Int)) (hb : 0 < b) (hab : Nat.gcd a b = 1) (hub : Nat.gcd un b = 1) (hb2 : b ≤ 1000000) : Good (Rat.divInt (s * un) b) ↔ a * un ≤ 1000000000000 := by
  have hc : Nat.Coprime (s * un).natAbs b := by
    have e : (s * (un : Int)).natAbs = a * un := by rw [Int.natAbs_mul]; rcases hs with rfl | rfl <;> simp
    rw [e]; exact Nat.Coprime.mul_left hab hub
  have e : Rat.divInt (s * un) b = ⟨s * un, b, by omega, hc⟩ := (Rat.mk_eq_divInt ..).symm
  rw [e]
  unfold Good
  have e2 : s * (un : Int) = ((a * un : Nat) : Int) ∨ s * (un : Int) = -((a * un : Nat) : Int) := by
    rcases hs with rfl | rfl
    · left; push_cast; rfl
    · right; rw [Int.neg_mul]; push_cast; rfl
  show -1000000000000 ≤ s * (un : Int) ∧ s * (un : Int) ≤ 1000000000000 ∧ b ≤ 1000000 ↔ _
  omega
theorem divInt_cut {m : Int} {g b un : Nat} {s : Int} (hg : 0 < g) (hm : m = g * s) : Rat.divInt (m * un) ((g * b : Nat) : Int) = Rat.divInt (s * un) b := by
  rw [hm, show ((g * b : Nat) : Int) = (b : Int) * g by push_cast; rw [Int.mul_comm], show (g : Int) * s * un = s * un * g by rw [Int.mul_comm (g : Int) s, Int.mul_assoc, Int.mul_comm (g : Int), ← Int.mul_assoc]]
  exact Rat.divInt_mul_right (by omega)
theorem gcd_part {un g b : Nat} (h : Nat.gcd un (g * b) = 1) : Nat.gcd un b = 1 := Nat.Coprime.coprime_dvd_right ⟨g, by rw [Nat.mul_comm]⟩ h

set_option maxRecDepth 10000 in
set_option maxHeartbeats 4000000 in
theorem rtimes_any (m : Int) (un ud : Nat) (E : Nat → Addr) (w : World) (u1 : 1 ≤ un) (u2 : un ≤ 1000000000000) (v1 : 1 ≤ ud) (v2 : ud ≤ 1000000) (hco : Nat.gcd un ud = 1) (m1 : -1000000000000000001 ≤ m) (m2 : m ≤ 1000000000000000001) (hE : Env LA E w) :
    Calls Tryd.prog 46 #[.int .i64 m, .agg #[.int .i64 un, .int .i64 ud]] w fun e w' =>
      (∃ n d err, e = .returned (.tuple #[.agg #[.int .i64 n, .int .i64 d], err]) ∧ ResF E (goodR (Rat.divInt (m * un) ud)) n d err) ∧ Below w.heap.size w w' := by
  obtain ⟨_, hlt, _⟩ := hE.sent 1 (by decide)
  have hne1 : 1 < w.heap.size + 1 ∧ 1 < w.heap.size + 1 + 1 ∧ 1 < w.heap.size + 1 + 1 + 1 ∧ 1 < w.heap.size + 1 + 1 + 1 + 1 := by omega
  have HE := Lib.hid hE
  clear hE
  by_cases hm : m < 0
  · obtain ⟨k, rfl⟩ : ∃ k : Nat, m = -(k : Int) := ⟨(-m).toNat, by omega⟩
    obtain ⟨g, a, b, hg, eg, e1, e2, f1, f2, la, pb, lb, k1, k2, hab⟩ := gcd_facts k ud v1
    have pa : 1 ≤ a := Nat.pos_of_ne_zero (fun h => by subst h; rw [Nat.mul_zero] at k1; omega)
    have hcu : Nat.gcd un b = 1 := by rw [k2] at hco; exact gcd_part hco
    have GI := Lib.hid (good_unit (un := un) (-(a : Int)) (by right; rfl) pb hab hcu (by omega))
    have DC : Hid (Rat.divInt (-(k : Int) * un) ud = Rat.divInt (-(a : Int) * un) b) := by show _ = _; rw [k2]; exact divInt_cut hg (by rw [k1]; push_cast; rw [Int.mul_neg])
    have Hc := rgcd_any k ud
    rw [eg] at Hc
    have HC := Lib.hid Hc
    obtain ⟨hi, lo, ehi, elo, cM⟩ := mul64_named a un (by omega) (by omega)
    have CM := Lib.hid cM
    have F : Hid (hi = a * un / 18446744073709551616 ∧ lo = a * un % 18446744073709551616) := ⟨ehi, elo⟩
    have lo64 : lo ≤ 18446744073709551615 := by omega
    have t1 := tdiv_neg' e1
    clear Hc cM ehi elo eg f1 f2 k1 k2 hab hcu hco
    have three : 0 < hi ∨ (hi = 0 ∧ 1000000000000 < lo) ∨ (hi = 0 ∧ lo ≤ 1000000000000) := by omega
    go_enter Tryd.func46, Tryd.ntmps46
    go_wp2_with fail
    rw [max_neg k]
    refine (HC.out _ (by omega) (by omega)).mono ?_
    rintro e w1 ⟨rfl, hb1⟩
    have hw1 : Below w.heap.size w w1 := stepH (by (repeat' (first | with_reducible exact Below.refl _ _ | with_reducible assumption | with_reducible refine Below.drew ?_ | with_reducible refine below_drewN ?_ _ | with_reducible refine Below.setCell ?_ ?_ _ | with_reducible refine Below.alloc ?_ ?_ _ | omega | (simp; done) | (simp; omega)))) hb1
    have X := keepH hb1 (g := w.heap.size) (blk_old (blk_new rfl))
    have R := keepH hb1 (g := w.heap.size + 1) (blk_new (by simp))
    have z1 := hw1.size
    clear hb1
    have cX := cellH X
    obtain ⟨lX, lX1, lX2⟩ := ltH X
    have fzX := frozH X
    have cR := cellH R
    obtain ⟨lR, lR1, lR2⟩ := ltH R
    have fzR := frozH R
    go_upto_region 3 with fail
    go_cut [0] (fun s0 wx => s0 = .int .i64 (-(a : Int)) ∧ Below w.heap.size w wx ∧ Hid (wx.heap[w.heap.size]? = some (.cells #[.int .i64 (un : Int), .int .i64 (b : Int)] 30 (0, 0))) ∧ Hid (wx.heap[w.heap.size + 1]? = some (.cells #[.int .i64 0, .int .i64 0] 30 (0, 0))))
    case first =>
      have hXR : w.heap.size ≠ w.heap.size + 1 := by omega
      go_region
      all_goals go_wp2_with fail
      all_goals go_meet
      all_goals exact ⟨rfl, (by (repeat' (first | with_reducible exact Below.refl _ _ | with_reducible assumption | with_reducible refine Below.drew ?_ | with_reducible refine below_drewN ?_ _ | with_reducible refine Below.setCell ?_ ?_ _ | with_reducible refine Below.alloc ?_ ?_ _ | omega | (simp; done) | (simp; omega)))), drewH (set2of2 X), drewH (set1o R (Ne.symm hXR) _)⟩
    case rest =>
      as_aux_lemma =>
        clear cX lX lX1 lX2 fzX cR lR lR1 lR2 fzR
        clear X R
        obtain ⟨rfl, hw2, X, R⟩ := hcut
        obtain ⟨w2, rfl⟩ : ∃ x : World, x = wc := ⟨_, rfl⟩
        have z2 := hw2.size
        have cX := cellH X
        obtain ⟨lX, lX1, lX2⟩ := ltH X
        have fzX := frozH X
        have cR := cellH R
        obtain ⟨lR, lR1, lR2⟩ := ltH R
        have fzR := frozH R
        go_wp2_with fail
        rw [max_neg a]
        refine (CM.out _).mono ?_
        rintro e w' ⟨rfl, rfl⟩
        have hc' := (HE.out.below hw2).cell 1 (by decide)
        rcases three with h3 | ⟨rfl, h3⟩ | ⟨rfl, h3⟩
        · go_wp2_with fail
          go_region
          all_goals go_wp2_with fail
          refine bodyPost_ret (v := .tuple #[.agg #[.int .i64 0, .int .i64 0], (.iface 106 (.pointer (some (E 1))))]) (by simp [results, Tryd.results46, go_sem, cR]) rfl ⟨⟨_, _, _, rfl, ?_⟩, by (repeat' (first | with_reducible exact Below.refl _ _ | with_reducible assumption | with_reducible refine Below.drew ?_ | with_reducible refine below_drewN ?_ _ | with_reducible refine Below.setCell ?_ ?_ _ | with_reducible refine Below.alloc ?_ ?_ _ | omega | (simp; done) | (simp; omega)))⟩
          have f := F.out
          rw [DC.out]
          exact resF_bad (by rw [GI.out]; omega)
        · go_wp2_with fail
          go_region
          all_goals go_wp2_with fail
          refine bodyPost_ret (v := .tuple #[.agg #[.int .i64 0, .int .i64 0], (.iface 106 (.pointer (some (E 1))))]) (by simp [results, Tryd.results46, go_sem, cR]) rfl ⟨⟨_, _, _, rfl, ?_⟩, by (repeat' (first | with_reducible exact Below.refl _ _ | with_reducible assumption | with_reducible refine Below.drew ?_ | with_reducible refine below_drewN ?_ _ | with_reducible refine Below.setCell ?_ ?_ _ | with_reducible refine Below.alloc ?_ ?_ _ | omega | (simp; done) | (simp; omega)))⟩
          have f := F.out
          rw [DC.out]
          exact resF_bad (by rw [GI.out]; omega)
        · go_wp2_with fail
          refine (make_any (-(lo : Int)) (b : Int) E _ (by omega) (by omega) (by omega) (by omega) ((HE.out.below (by (repeat' (first | with_reducible exact Below.refl _ _ | with_reducible assumption | with_reducible refine Below.drew ?_ | with_reducible refine below_drewN ?_ _ | with_reducible refine Below.setCell ?_ ?_ _ | with_reducible refine Below.alloc ?_ ?_ _ | omega | (simp; done) | (simp; omega))))).sub (by decide))).mono ?_
          rintro e w3 ⟨⟨n, d, err, rfl, hr⟩, hb3⟩
          have hw3 : Below w.heap.size w w3 := stepH (by (repeat' (first | with_reducible exact Below.refl _ _ | with_reducible assumption | with_reducible refine Below.drew ?_ | with_reducible refine below_drewN ?_ _ | with_reducible refine Below.setCell ?_ ?_ _ | with_reducible refine Below.alloc ?_ ?_ _ | omega | (simp; done) | (simp; omega)))) hb3
          replace X := keepH hb3 X.out
          replace R := keepH hb3 R.out
          have z3 := hw3.size
          clear hb3 hw2 z2
          clear cX lX lX1 lX2 fzX cR lR lR1 lR2 fzR
          have cX := cellH X
          obtain ⟨lX, lX1, lX2⟩ := ltH X
          have fzX := frozH X
          have cR := cellH R
          obtain ⟨lR, lR1, lR2⟩ := ltH R
          have fzR := frozH R
          go_wp2_with fail
          refine bodyPost_ret (v := .tuple #[.agg #[.int .i64 n, .int .i64 d], err]) (by simp [results, Tryd.results46, go_sem, cR]) rfl ⟨⟨_, _, _, rfl, ?_⟩, by (repeat' (first | with_reducible exact Below.refl _ _ | with_reducible assumption | with_reducible refine Below.drew ?_ | with_reducible refine below_drewN ?_ _ | with_reducible refine Below.setCell ?_ ?_ _ | with_reducible refine Below.alloc ?_ ?_ _ | omega | (simp; done) | (simp; omega)))⟩
          have f := F.out
          have g := GI.out
          have elo : lo = a * un := by omega
          rw [DC.out]
          rw [makeR_pos (by omega), elo] at hr
          rw [show -(a : Int) * (un : Int) = -((a * un : Nat) : Int) by push_cast; rw [Int.neg_mul]]
          exact hr
  · obtain ⟨k, rfl⟩ : ∃ k : Nat, m = (k : Int) := ⟨m.toNat, by omega⟩
    obtain ⟨g, a, b, hg, eg, e1, e2, f1, f2, la, pb, lb, k1, k2, hab⟩ := gcd_facts k ud v1
    have pa : 0 ≤ a := Nat.zero_le _
    have hcu : Nat.gcd un b = 1 := by rw [k2] at hco; exact gcd_part hco
    have GI := Lib.hid (good_unit (un := un) ((a : Int)) (by left; rfl) pb hab hcu (by omega))
    have DC : Hid (Rat.divInt ((k : Int) * un) ud = Rat.divInt ((a : Int) * un) b) := by show _ = _; rw [k2]; exact divInt_cut hg (by rw [k1]; push_cast; rfl)
    have Hc := rgcd_any k ud
    rw [eg] at Hc
    have HC := Lib.hid Hc
    obtain ⟨hi, lo, ehi, elo, cM⟩ := mul64_named a un (by omega) (by omega)
    have CM := Lib.hid cM
    have F : Hid (hi = a * un / 18446744073709551616 ∧ lo = a * un % 18446744073709551616) := ⟨ehi, elo⟩
    have lo64 : lo ≤ 18446744073709551615 := by omega
    clear Hc cM ehi elo eg f1 f2 k1 k2 hab hcu hco
    have three : 0 < hi ∨ (hi = 0 ∧ 1000000000000 < lo) ∨ (hi = 0 ∧ lo ≤ 1000000000000) := by omega
    go_enter Tryd.func46, Tryd.ntmps46
    go_wp2_with fail
    rw [max_pos k]
    refine (HC.out _ (by omega) (by omega)).mono ?_
    rintro e w1 ⟨rfl, hb1⟩
    have hw1 : Below w.heap.size w w1 := stepH (by (repeat' (first | with_reducible exact Below.refl _ _ | with_reducible assumption | with_reducible refine Below.drew ?_ | with_reducible refine below_drewN ?_ _ | with_reducible refine Below.setCell ?_ ?_ _ | with_reducible refine Below.alloc ?_ ?_ _ | omega | (simp; done) | (simp; omega)))) hb1
    have X := keepH hb1 (g := w.heap.size) (blk_old (blk_new rfl))
    have R := keepH hb1 (g := w.heap.size + 1) (blk_new (by simp))
    have z1 := hw1.size
    clear hb1
    have cX := cellH X
    obtain ⟨lX, lX1, lX2⟩ := ltH X
    have fzX := frozH X
    have cR := cellH R
    obtain ⟨lR, lR1, lR2⟩ := ltH R
    have fzR := frozH R
    go_upto_region 3 with fail
    go_cut [0] (fun s0 wx => s0 = .int .i64 ((a : Int)) ∧ Below w.heap.size w wx ∧ Hid (wx.heap[w.heap.size]? = some (.cells #[.int .i64 (un : Int), .int .i64 (b : Int)] 30 (0, 0))) ∧ Hid (wx.heap[w.heap.size + 1]? = some (.cells #[.int .i64 0, .int .i64 0] 30 (0, 0))))
    case first =>
      have hXR : w.heap.size ≠ w.heap.size + 1 := by omega
      go_region
      all_goals go_wp2_with fail
      all_goals go_meet
      all_goals exact ⟨rfl, (by (repeat' (first | with_reducible exact Below.refl _ _ | with_reducible assumption | with_reducible refine Below.drew ?_ | with_reducible refine below_drewN ?_ _ | with_reducible refine Below.setCell ?_ ?_ _ | with_reducible refine Below.alloc ?_ ?_ _ | omega | (simp; done) | (simp; omega)))), drewH (set2of2 X), drewH (set1o R (Ne.symm hXR) _)⟩
    case rest =>
      as_aux_lemma =>
        clear cX lX lX1 lX2 fzX cR lR lR1 lR2 fzR
        clear X R
        obtain ⟨rfl, hw2, X, R⟩ := hcut
        obtain ⟨w2, rfl⟩ : ∃ x : World, x = wc := ⟨_, rfl⟩
        have z2 := hw2.size
        have cX := cellH X
        obtain ⟨lX, lX1, lX2⟩ := ltH X
        have fzX := frozH X
        have cR := cellH R
        obtain ⟨lR, lR1, lR2⟩ := ltH R
        have fzR := frozH R
        go_wp2_with fail
        rw [max_pos a]
        refine (CM.out _).mono ?_
        rintro e w' ⟨rfl, rfl⟩
        have hc' := (HE.out.below hw2).cell 1 (by decide)
        rcases three with h3 | ⟨rfl, h3⟩ | ⟨rfl, h3⟩
        · go_wp2_with fail
          go_region
          all_goals go_wp2_with fail
          refine bodyPost_ret (v := .tuple #[.agg #[.int .i64 0, .int .i64 0], (.iface 106 (.pointer (some (E 1))))]) (by simp [results, Tryd.results46, go_sem, cR]) rfl ⟨⟨_, _, _, rfl, ?_⟩, by (repeat' (first | with_reducible exact Below.refl _ _ | with_reducible assumption | with_reducible refine Below.drew ?_ | with_reducible refine below_drewN ?_ _ | with_reducible refine Below.setCell ?_ ?_ _ | with_reducible refine Below.alloc ?_ ?_ _ | omega | (simp; done) | (simp; omega)))⟩
          have f := F.out
          rw [DC.out]
          exact resF_bad (by rw [GI.out]; omega)
        · go_wp2_with fail
          go_region
          all_goals go_wp2_with fail
          refine bodyPost_ret (v := .tuple #[.agg #[.int .i64 0, .int .i64 0], (.iface 106 (.pointer (some (E 1))))]) (by simp [results, Tryd.results46, go_sem, cR]) rfl ⟨⟨_, _, _, rfl, ?_⟩, by (repeat' (first | with_reducible exact Below.refl _ _ | with_reducible assumption | with_reducible refine Below.drew ?_ | with_reducible refine below_drewN ?_ _ | with_reducible refine Below.setCell ?_ ?_ _ | with_reducible refine Below.alloc ?_ ?_ _ | omega | (simp; done) | (simp; omega)))⟩
          have f := F.out
          rw [DC.out]
          exact resF_bad (by rw [GI.out]; omega)
        · go_wp2_with fail
          refine (make_any (lo : Int) (b : Int) E _ (by omega) (by omega) (by omega) (by omega) ((HE.out.below (by (repeat' (first | with_reducible exact Below.refl _ _ | with_reducible assumption | with_reducible refine Below.drew ?_ | with_reducible refine below_drewN ?_ _ | with_reducible refine Below.setCell ?_ ?_ _ | with_reducible refine Below.alloc ?_ ?_ _ | omega | (simp; done) | (simp; omega))))).sub (by decide))).mono ?_
          rintro e w3 ⟨⟨n, d, err, rfl, hr⟩, hb3⟩
          have hw3 : Below w.heap.size w w3 := stepH (by (repeat' (first | with_reducible exact Below.refl _ _ | with_reducible assumption | with_reducible refine Below.drew ?_ | with_reducible refine below_drewN ?_ _ | with_reducible refine Below.setCell ?_ ?_ _ | with_reducible refine Below.alloc ?_ ?_ _ | omega | (simp; done) | (simp; omega)))) hb3
          replace X := keepH hb3 X.out
          replace R := keepH hb3 R.out
          have z3 := hw3.size
          clear hb3 hw2 z2
          clear cX lX lX1 lX2 fzX cR lR lR1 lR2 fzR
          have cX := cellH X
          obtain ⟨lX, lX1, lX2⟩ := ltH X
          have fzX := frozH X
          have cR := cellH R
          obtain ⟨lR, lR1, lR2⟩ := ltH R
          have fzR := frozH R
          go_wp2_with fail
          refine bodyPost_ret (v := .tuple #[.agg #[.int .i64 n, .int .i64 d], err]) (by simp [results, Tryd.results46, go_sem, cR]) rfl ⟨⟨_, _, _, rfl, ?_⟩, by (repeat' (first | with_reducible exact Below.refl _ _ | with_reducible assumption | with_reducible refine Below.drew ?_ | with_reducible refine below_drewN ?_ _ | with_reducible refine Below.setCell ?_ ?_ _ | with_reducible refine Below.alloc ?_ ?_ _ | omega | (simp; done) | (simp; omega)))⟩
          have f := F.out
          have g := GI.out
          have elo : lo = a * un := by omega
          rw [DC.out]
          rw [makeR_pos (by omega), elo] at hr
          rw [show (a : Int) * (un : Int) = ((a * un : Nat) : Int) by push_cast; rfl]
          exact hr

/-- what Valid tells of a rounding -/
def rdB (mode n d : Int) : Bool := if mode = 0 then n == 0 && d == 0 else decide (0 < mode) && decide (mode ≤ 6) && validB n d && decide (0 < n)

set_option maxHeartbeats 2000000 in
theorem roundValid_any (mode n d : Int) (w : World) (n1 : -9223372036854775808 ≤ n) (n2 : n ≤ 9223372036854775807) (d1 : -9223372036854775808 ≤ d) (d2 : d ≤ 9223372036854775807) :
    Calls Tryd.prog 43 #[.agg #[.int .i64 mode, .int .i64 n, .int .i64 d]] w fun e w' => e = .returned (.bool (rdB mode n d)) ∧ Below w.heap.size w w' := by
  by_cases h0 : mode = 0
  · subst h0
    cases ha : (n == 0)
    · go_enter Tryd.func43, Tryd.ntmps43
      go_wp2_with fail
      go_ret
      exact ⟨ret_bool (by unfold rdB; simp [ha]), by (repeat' (first | with_reducible exact Below.refl _ _ | with_reducible assumption | with_reducible refine Below.drew ?_ | with_reducible refine below_drewN ?_ _ | with_reducible refine Below.setCell ?_ ?_ _ | with_reducible refine Below.alloc ?_ ?_ _ | omega | (simp; done) | (simp; omega)))⟩
    · cases hb : (d == 0)
      all_goals
        go_enter Tryd.func43, Tryd.ntmps43
        go_wp2_with fail
        go_ret
        exact ⟨ret_bool (by unfold rdB; simp [ha, hb]), by (repeat' (first | with_reducible exact Below.refl _ _ | with_reducible assumption | with_reducible refine Below.drew ?_ | with_reducible refine below_drewN ?_ _ | with_reducible refine Below.setCell ?_ ?_ _ | with_reducible refine Below.alloc ?_ ?_ _ | omega | (simp; done) | (simp; omega)))⟩
  have h0' : (mode == 0) = false := by simpa using h0
  have hr : rdB mode n d = (decide (0 < mode) && decide (mode ≤ 6) && validB n d && decide (0 < n)) := by unfold rdB; rw [if_neg h0]
  have HR := Lib.hid hr
  clear hr h0
  by_cases h1 : 0 < mode
  · by_cases h2 : mode ≤ 6
    · have V := fracValid_any n d
      unfold pv at V
      cases hv : validB n d
      all_goals
        rw [hv] at V
        have HV := Lib.hid V
        have Hv := Lib.hid hv
        clear V hv
        by_cases h3 : 0 < n
        all_goals
          go_enter Tryd.func43, Tryd.ntmps43
          go_wp2_with fail
          refine (HV.out _ (by omega) (by omega) (by omega) (by omega)).mono ?_
          rintro e w1 ⟨rfl, hb⟩
          have hw1 : Below w.heap.size w w1 := stepH (by (repeat' (first | with_reducible exact Below.refl _ _ | with_reducible assumption | with_reducible refine Below.drew ?_ | with_reducible refine below_drewN ?_ _ | with_reducible refine Below.setCell ?_ ?_ _ | with_reducible refine Below.alloc ?_ ?_ _ | omega | (simp; done) | (simp; omega)))) hb
          have B := keepH hb (g := w.heap.size) (blk_new rfl)
          have cB := cellH B
          go_wp2_with fail
          go_ret
          exact ⟨ret_bool (by rw [HR.out, Hv.out]; simp <;> omega), hw1⟩
    · go_enter Tryd.func43, Tryd.ntmps43
      go_wp2_with fail
      go_ret
      exact ⟨ret_bool (by rw [HR.out]; simp <;> omega), by (repeat' (first | with_reducible exact Below.refl _ _ | with_reducible assumption | with_reducible refine Below.drew ?_ | with_reducible refine below_drewN ?_ _ | with_reducible refine Below.setCell ?_ ?_ _ | with_reducible refine Below.alloc ?_ ?_ _ | omega | (simp; done) | (simp; omega)))⟩
  · go_enter Tryd.func43, Tryd.ntmps43
    go_wp2_with fail
    go_ret
    exact ⟨ret_bool (by rw [HR.out]; simp <;> omega), by (repeat' (first | with_reducible exact Below.refl _ _ | with_reducible assumption | with_reducible refine Below.drew ?_ | with_reducible refine below_drewN ?_ _ | with_reducible refine Below.setCell ?_ ?_ _ | with_reducible refine Below.alloc ?_ ?_ _ | omega | (simp; done) | (simp; omega)))⟩

end Go.Proofs.YtcbglkkmblmbnaaDoor
