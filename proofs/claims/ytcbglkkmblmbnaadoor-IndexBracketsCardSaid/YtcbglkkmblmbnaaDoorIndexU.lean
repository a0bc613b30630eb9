/- The walk of IndexBrackets. -/
import Derived.Test.YtcbglkkmblmbnaaDoorIndexG
import Derived.Test.YtcbglkkmblmbnaaDoorOrder2
namespace Go.Proofs.YtcbglkkmblmbnaaDoor
open Go.RowKit

theorem makeR_one {x : Int} {f : Rat} (h : makeR x 1 = .ok f) : f = (x : Rat) := by
  unfold makeR goodR at h
  split at h
  · cases h
  split at h
  · cases h
    rw [Rat.divInt_eq_div]
    have e : ((1 : Int) : Rat) = 1 := rfl
    rw [e]
    grind
  · cases h

theorem lastT_succ {a : List Int} {k : Nat} {x : Int} (h : a[k]? = some x) : lastT a (k + 1) = x := by unfold lastT; rw [if_neg (by omega)]; exact getD_of h

theorem rises_at {a : List Int} {n : Nat} (h : risesN a n = true) {k : Nat} (hk : k < n) : lastT a k < lastT a (k + 1) := by
  induction n with
  | zero => omega
  | succ n ih =>
    have h' : (risesN a n && decide (lastT a n < a.getD n 0)) = true := h
    rw [Bool.and_eq_true, decide_eq_true_eq] at h'
    rcases Nat.lt_or_ge k n with hl | hl
    · exact ih h'.1 hl
    · obtain rfl : k = n := by omega
      have e : lastT a (k + 1) = a.getD k 0 := by unfold lastT; rw [if_neg (by omega)]; rfl
      rw [e]; exact h'.2

theorem scaleN_at {a b : List Int} {den : Int} {n : Nat} {s : List (Rat × Rat)} (h : scaleN a b den n = .ok s) : s.length = n ∧ ∀ (k : Nat) (x : Rat × Rat), s[k]? = some x → makeR (b.getD k 0) den = .ok x.2 ∧ x.1 = ((lastT a k : Int) : Rat) := by
  induction n generalizing s with
  | zero => cases h; exact ⟨rfl, fun k x h => by simp at h⟩
  | succ n ih =>
    unfold scaleN at h
    split at h
    · cases h
    rename_i o ho
    split at h
    · cases h
    rename_i r hr
    split at h
    · cases h
    rename_i f hf
    cases h
    obtain ⟨hl, ih⟩ := ih ho
    refine ⟨by rw [List.length_append, hl]; rfl, fun k x hx => ?_⟩
    rcases Nat.lt_or_ge k n with hk | hk
    · rw [List.getElem?_append_left (by omega)] at hx
      exact ih k x hx
    · have : k < (o ++ [(f, r)]).length := (List.getElem?_eq_some_iff.1 hx).1
      rw [List.length_append, List.length_singleton] at this
      obtain rfl : k = n := by omega
      rw [List.getElem?_append_right (by omega), show k - o.length = 0 by omega] at hx
      cases hx
      refine ⟨hr, ?_⟩
      unfold fromR at hf
      unfold lastT
      split at hf
      · rename_i h0
        cases hf
        rw [if_pos h0]; rfl
      · rename_i h0
        rw [if_neg h0]
        exact makeR_one hf

/-- what Scale answers without an error -/
theorem scale_ok {a b : List Int} {den : Int} {s : List (Rat × Rat)} (h : scaleI a b den = .ok s) : s.length = a.length + 1 ∧ s.length = b.length ∧ s.length ≤ 32 ∧
    (∀ (k : Nat) (x : Rat × Rat), s[k]? = some x → makeR (b.getD k 0) den = .ok x.2 ∧ x.1 = ((lastT a k : Int) : Rat)) ∧ ∀ k, k < a.length → lastT a k < lastT a (k + 1) := by
  unfold scaleI at h
  split at h
  · cases h
  split at h
  · cases h
  split at h
  · cases h
  obtain ⟨h1, h2⟩ := scaleN_at h
  exact ⟨by omega, h1, by omega, h2, fun k hk => rises_at (by rename_i h3; simpa using h3) hk⟩

theorem neq_err (a : Addr) (w : World) : (binOp .neq 25 (.iface 106 (.pointer (some a))) (.iface 106 (.pointer (some a)))).run Tryd.prog w = .ok (.bool false) w := by
  obtain ⟨i, hi, hc⟩ := Option.map_eq_some_iff.1 info62
  obtain ⟨j, hj, _⟩ := Option.map_eq_some_iff.1 info80
  simp only [binOp]
  simp [Op.equal, Op.maxDepth, run_equalIn_iface_ptr_same w 9998 a Tryd.underlying25 Tryd.underlying106 hi hc hj]

theorem cmp_ints (p q : Int) (w : World) (hp : Good (p : Rat)) (hq : Good (q : Rat)) (h : p < q) :
    Calls Tryd.prog 15 #[.agg #[.int .i64 p, .int .i64 1], .agg #[.int .i64 q, .int .i64 1]] w fun e w' => e = .returned (.int .i64 (-1)) ∧ Below w.heap.size w w' := by
  have h1 := cmp_is (p : Rat) (q : Rat) (-1) w hp hq (cmpQ_lt (Rat.intCast_lt_intCast.2 h))
  rw [Rat.num_intCast, Rat.num_intCast, Rat.den_intCast, Rat.den_intCast] at h1
  exact h1

theorem valid_is {n d : Int} (w : World) (h : validB n d = true) (n1 : -9223372036854775808 ≤ n) (n2 : n ≤ 9223372036854775807) (d1 : -9223372036854775808 ≤ d) (d2 : d ≤ 9223372036854775807) :
    Calls Tryd.prog 36 #[.agg #[.int .i64 n, .int .i64 d]] w fun e w' => e = .returned (.bool true) ∧ Below w.heap.size w w' := by
  have h1 := refValid_any n d w n1 n2 d1 d2
  rw [h] at h1
  exact h1

theorem greater_at {a b : List Int} {k : Nat} {v : Int} (h : (greaterL a b)[k]? = some v) : ∃ x y, a[k]? = some x ∧ b[k]? = some y ∧ v = max x y := by
  unfold greaterL at h
  rw [List.getElem?_zipWith] at h
  split at h
  · rename_i x y hx hy
    cases h
    exact ⟨x, y, hx, hy, rfl⟩
  · cases h

set_option maxRecDepth 100000 in
set_option maxHeartbeats 16000000 in
theorem indexBrackets_walk (a b : List Int) (A B : Option Addr) (c d : Nat) (den : Int) (E : Nat → Addr) (w : World) (hc : a.length ≤ c) (hm : c ≤ maxLen) (hc2 : b.length ≤ d) (hm2 : d ≤ maxLen) (ha : RowAt encI 1 w w.heap.size A a) (hb : RowAt encI 1 w w.heap.size B b) (hI : ∀ x ∈ a, InI x) (hJ : ∀ x ∈ b, InI x)
    (d1 : -9223372036854775808 ≤ den) (d2 : den ≤ 9223372036854775807) (hE : Env LM E w) :
    Calls Tryd.prog 11 #[.slice A a.length c, .slice B b.length d, .int .i64 den] w fun e w' => e = .returned (.bool true) ∧ Below w.heap.size w w' := by
  have hm' : a.length ≤ 9223372036854775807 := by unfold maxLen at hm; omega
  have hm2' : b.length ≤ 9223372036854775807 := by unfold maxLen at hm2; omega
  clear hm hm2 hc hc2
  have HM := Lib.hid hE
  have HE := Lib.hid (hE.sub (L' := LI) (by decide))
  have HA := Lib.hid ha
  have HB := Lib.hid hb
  have HI := Lib.hid hI
  have HJ := Lib.hid hJ
  clear hE ha hb hI hJ
  have two : 1000 < a.length ∨ (a.length ≤ 1000 ∧ 1000 < b.length) ∨ (a.length ≤ 1000 ∧ b.length ≤ 1000) := by omega
  rcases two with t1 | ⟨t1, t2⟩ | ⟨t1, t2⟩
  · go_enter Tryd.func11, Tryd.ntmps11
    go_wp2_with fail
    refine (first16_any E _ (HE.out.below (by (repeat' (first | with_reducible exact Below.refl _ _ | with_reducible assumption | with_reducible refine Below.drew ?_ | with_reducible refine below_drewN ?_ _ | with_reducible refine Below.setCell ?_ ?_ _ | with_reducible refine Below.alloc ?_ ?_ _ | omega | (simp; done) | (simp; omega)))))).mono ?_
    rintro e w1 ⟨rfl, hb1⟩
    have hw1 : Below w.heap.size w w1 := stepH (by (repeat' (first | with_reducible exact Below.refl _ _ | with_reducible assumption | with_reducible refine Below.drew ?_ | with_reducible refine below_drewN ?_ _ | with_reducible refine Below.setCell ?_ ?_ _ | with_reducible refine Below.alloc ?_ ?_ _ | omega | (simp; done) | (simp; omega)))) hb1
    have z1 := hw1.size
    clear hb1
    go_wp2_with fail
    go_ret
    exact ⟨rfl, by (repeat' (first | with_reducible exact Below.refl _ _ | with_reducible assumption | with_reducible refine Below.drew ?_ | with_reducible refine below_drewN ?_ _ | with_reducible refine Below.setCell ?_ ?_ _ | with_reducible refine Below.alloc ?_ ?_ _ | omega | (simp; done) | (simp; omega)))⟩
  · go_enter Tryd.func11, Tryd.ntmps11
    go_wp2_with fail
    refine (first16_any E _ (HE.out.below (by (repeat' (first | with_reducible exact Below.refl _ _ | with_reducible assumption | with_reducible refine Below.drew ?_ | with_reducible refine below_drewN ?_ _ | with_reducible refine Below.setCell ?_ ?_ _ | with_reducible refine Below.alloc ?_ ?_ _ | omega | (simp; done) | (simp; omega)))))).mono ?_
    rintro e w2 ⟨rfl, hb2⟩
    have hw2 : Below w.heap.size w w2 := stepH (by (repeat' (first | with_reducible exact Below.refl _ _ | with_reducible assumption | with_reducible refine Below.drew ?_ | with_reducible refine below_drewN ?_ _ | with_reducible refine Below.setCell ?_ ?_ _ | with_reducible refine Below.alloc ?_ ?_ _ | omega | (simp; done) | (simp; omega)))) hb2
    have z2 := hw2.size
    clear hb2
    go_wp2_with fail
    go_ret
    exact ⟨rfl, by (repeat' (first | with_reducible exact Below.refl _ _ | with_reducible assumption | with_reducible refine Below.drew ?_ | with_reducible refine below_drewN ?_ _ | with_reducible refine Below.setCell ?_ ?_ _ | with_reducible refine Below.alloc ?_ ?_ _ | omega | (simp; done) | (simp; omega)))⟩
  · go_enter Tryd.func11, Tryd.ntmps11
    go_wp2_with fail
    refine (first16_any E _ (HE.out.below (by (repeat' (first | with_reducible exact Below.refl _ _ | with_reducible assumption | with_reducible refine Below.drew ?_ | with_reducible refine below_drewN ?_ _ | with_reducible refine Below.setCell ?_ ?_ _ | with_reducible refine Below.alloc ?_ ?_ _ | omega | (simp; done) | (simp; omega)))))).mono ?_
    rintro e w3 ⟨rfl, hb3⟩
    have hw3 : Below w.heap.size w w3 := stepH (by (repeat' (first | with_reducible exact Below.refl _ _ | with_reducible assumption | with_reducible refine Below.drew ?_ | with_reducible refine below_drewN ?_ _ | with_reducible refine Below.setCell ?_ ?_ _ | with_reducible refine Below.alloc ?_ ?_ _ | omega | (simp; done) | (simp; omega)))) hb3
    have z3 := hw3.size
    clear hb3
    go_wp2_with fail
    refine (ints_any a _ A c _ rfl ((HA.out.below (by (repeat' (first | with_reducible exact Below.refl _ _ | with_reducible assumption | with_reducible refine Below.drew ?_ | with_reducible refine below_drewN ?_ _ | with_reducible refine Below.setCell ?_ ?_ _ | with_reducible refine Below.alloc ?_ ?_ _ | omega | (simp; done) | (simp; omega)))) (Nat.le_refl _)).more (by first | omega | (simp; omega))) (by omega)).mono ?_
    rintro e w4 ⟨v1, rfl, own1, hb4⟩
    have hw4 : Below w.heap.size w w4 := stepH (by (repeat' (first | with_reducible exact Below.refl _ _ | with_reducible assumption | with_reducible refine Below.drew ?_ | with_reducible refine below_drewN ?_ _ | with_reducible refine Below.setCell ?_ ?_ _ | with_reducible refine Below.alloc ?_ ?_ _ | omega | (simp; done) | (simp; omega)))) hb4
    obtain ⟨A1, c1, hv1, _, _, hr1⟩ := Own.rows (enc := encI) (size := 1) (fun _ _ => rfl) own1
    subst hv1
    have R1 := Lib.hid hr1
    clear own1 hr1
    have z4 := hw4.size
    clear hb4 hw3 z3
    go_wp2_with fail
    refine (ints_any b _ B d _ rfl ((HB.out.below (by (repeat' (first | with_reducible exact Below.refl _ _ | with_reducible assumption | with_reducible refine Below.drew ?_ | with_reducible refine below_drewN ?_ _ | with_reducible refine Below.setCell ?_ ?_ _ | with_reducible refine Below.alloc ?_ ?_ _ | omega | (simp; done) | (simp; omega)))) (Nat.le_refl _)).more (by first | omega | (simp; omega))) (by omega)).mono ?_
    rintro e w5 ⟨v2, rfl, own2, hb5⟩
    replace R1 : Hid (RowAt encI 1 _ _ A1 a) := Lib.hid ((R1.out.below hb5 (Nat.le_refl _)).more hb5.size)
    have hw5 : Below w.heap.size w w5 := stepH (by (repeat' (first | with_reducible exact Below.refl _ _ | with_reducible assumption | with_reducible refine Below.drew ?_ | with_reducible refine below_drewN ?_ _ | with_reducible refine Below.setCell ?_ ?_ _ | with_reducible refine Below.alloc ?_ ?_ _ | omega | (simp; done) | (simp; omega)))) hb5
    obtain ⟨A2, c2, hv2, _, _, hr2⟩ := Own.rows (enc := encI) (size := 1) (fun _ _ => rfl) own2
    subst hv2
    have R2 := Lib.hid hr2
    clear own2 hr2
    have z5 := hw5.size
    clear hb5 hw4 z4
    go_wp2_with fail
    refine (scale_any a b den A1 A2 c1 c2 E _ (by omega) (by omega) R1.out R2.out HI.out HJ.out d1 d2 (HE.out.below (by (repeat' (first | with_reducible exact Below.refl _ _ | with_reducible assumption | with_reducible refine Below.drew ?_ | with_reducible refine below_drewN ?_ _ | with_reducible refine Below.setCell ?_ ?_ _ | with_reducible refine Below.alloc ?_ ?_ _ | omega | (simp; done) | (simp; omega)))))).mono ?_
    rintro e w6 ⟨hret, hb6⟩
    have hw6 : Below w.heap.size w w6 := stepH (by (repeat' (first | with_reducible exact Below.refl _ _ | with_reducible assumption | with_reducible refine Below.drew ?_ | with_reducible refine below_drewN ?_ _ | with_reducible refine Below.setCell ?_ ?_ _ | with_reducible refine Below.alloc ?_ ?_ _ | omega | (simp; done) | (simp; omega)))) hb6
    have z6 := hw6.size
    clear hb6 hw5 z5
    clear R1 R2
    have HA4 := Lib.hid ((HA.out.below hw6 (Nat.le_refl _)).more hw6.size)
    have HB4 := Lib.hid ((HB.out.below hw6 (Nat.le_refl _)).more hw6.size)
    have HWD := Lib.hid hw6
    cases hs : scaleI a b den
    · rename_i g
      rw [hs] at hret
      have hret : e = _ := hret
      subst hret
      clear hs
      have hen := fun w => eql_nil (E g) w
      have hw60 : Below w6.heap.size w6 w6 := Below.refl _ _
      have z60 := hw60.size
      have HE4 := Lib.hid (HE.out.below HWD.out)
      go_wp2_with fail
      refine (ints_any a _ A c _ rfl ((HA4.out.below (by (repeat' (first | with_reducible exact Below.refl _ _ | with_reducible assumption | with_reducible refine Below.drew ?_ | with_reducible refine below_drewN ?_ _ | with_reducible refine Below.setCell ?_ ?_ _ | with_reducible refine Below.alloc ?_ ?_ _ | omega | (simp; done) | (simp; omega)))) (Nat.le_refl _)).more (by first | omega | (simp; omega))) (by omega)).mono ?_
      rintro e w61 ⟨v3, rfl, own3, hb61⟩
      have hw61 : Below w6.heap.size w6 w61 := stepH (by (repeat' (first | with_reducible exact Below.refl _ _ | with_reducible assumption | with_reducible refine Below.drew ?_ | with_reducible refine below_drewN ?_ _ | with_reducible refine Below.setCell ?_ ?_ _ | with_reducible refine Below.alloc ?_ ?_ _ | omega | (simp; done) | (simp; omega)))) hb61
      obtain ⟨A3, c3, hv3, _, _, hr3⟩ := Own.rows (enc := encI) (size := 1) (fun _ _ => rfl) own3
      subst hv3
      have R3 := Lib.hid hr3
      clear own3 hr3
      have z61 := hw61.size
      clear hb61 hw60 z60
      go_wp2_with fail
      refine (ints_any b _ B d _ rfl ((HB4.out.below (by (repeat' (first | with_reducible exact Below.refl _ _ | with_reducible assumption | with_reducible refine Below.drew ?_ | with_reducible refine below_drewN ?_ _ | with_reducible refine Below.setCell ?_ ?_ _ | with_reducible refine Below.alloc ?_ ?_ _ | omega | (simp; done) | (simp; omega)))) (Nat.le_refl _)).more (by first | omega | (simp; omega))) (by omega)).mono ?_
      rintro e w62 ⟨v4, rfl, own4, hb62⟩
      replace R3 : Hid (RowAt encI 1 _ _ A3 a) := Lib.hid ((R3.out.below hb62 (Nat.le_refl _)).more hb62.size)
      have hw62 : Below w6.heap.size w6 w62 := stepH (by (repeat' (first | with_reducible exact Below.refl _ _ | with_reducible assumption | with_reducible refine Below.drew ?_ | with_reducible refine below_drewN ?_ _ | with_reducible refine Below.setCell ?_ ?_ _ | with_reducible refine Below.alloc ?_ ?_ _ | omega | (simp; done) | (simp; omega)))) hb62
      obtain ⟨A4, c4, hv4, _, _, hr4⟩ := Own.rows (enc := encI) (size := 1) (fun _ _ => rfl) own4
      subst hv4
      have R4 := Lib.hid hr4
      clear own4 hr4
      have z62 := hw62.size
      clear hb62 hw61 z61
      go_wp2_with fail
      refine (greater_any a b A3 A4 c3 c4 E _ (by omega) R3.out R4.out HI.out HJ.out (HM.out.below (stepH HWD.out hw62))).mono ?_
      rintro e w63 ⟨hret, hb63⟩
      have hw63 : Below w6.heap.size w6 w63 := stepH (by (repeat' (first | with_reducible exact Below.refl _ _ | with_reducible assumption | with_reducible refine Below.drew ?_ | with_reducible refine below_drewN ?_ _ | with_reducible refine Below.setCell ?_ ?_ _ | with_reducible refine Below.alloc ?_ ?_ _ | omega | (simp; done) | (simp; omega)))) hb63
      clear R3 R4
      have z63 := hw63.size
      clear hb63 hw62 z62
      by_cases hl : a.length = b.length
      · rw [if_pos hl] at hret
        obtain ⟨v, rfl, own⟩ := hret
        obtain ⟨AG, cG, hv, _, _, hrG⟩ := Own.rows (enc := encI) (size := 1) (fun _ _ => rfl) own
        subst hv
        have hlg : (greaterL a b).length = a.length := by unfold greaterL; rw [List.length_zipWith, ← hl, Nat.min_self]
        have HG9 := Lib.hid hrG
        have e1 : ((a.length : Int) == (b.length : Int)) = true := by simp [hl]
        have g1 : (greaterL a b).length ≤ a.length := by omega
        have g2 : a.length ≤ (greaterL a b).length := by omega
        have g3 : (greaterL a b).length ≤ b.length := by omega
        have e2 : (((greaterL a b).length : Int) == (a.length : Int)) = true := by simp [hlg]
        clear hl hlg own hrG
        generalize hgl : greaterL a b = l at *
        have HGL := Lib.hid hgl
        clear hgl
        have HA5 := Lib.hid ((HA4.out.below hw63 (Nat.le_refl _)).more hw63.size)
        have HB5 := Lib.hid ((HB4.out.below hw63 (Nat.le_refl _)).more hw63.size)
        go_wp2_with fail
        go_loopw [17] (fun i wr => ∃ k : Nat, i = .int .i64 k ∧ k ≤ l.length ∧ Below w63.heap.size w63 wr) (fun i _ => l.length - (intOf i).toNat)
        case atStart => exact ⟨0, rfl, Nat.zero_le _, Below.refl _ _⟩
        case round =>
          obtain ⟨k2, rfl, hk2, hw9⟩ := hrel
          have z9 := hw9.size
          by_cases hlt2 : k2 < l.length
          · obtain ⟨v, hv⟩ : ∃ y, l[k2]? = some y := ⟨l[k2], List.getElem?_eq_getElem hlt2⟩
            obtain ⟨x, y, hx, hy, hmx⟩ := greater_at (by rw [HGL.out]; exact hv)
            obtain ⟨bG, oG, rfl, hbG, hcG⟩ := HG9.out k2 _ hv
            obtain ⟨bA, oA, rfl, hbA, hcA⟩ := HA5.out k2 _ hx
            obtain ⟨bB, oB, rfl, hbB, hcB⟩ := HB5.out k2 _ hy
            have cg : wr.cell? ⟨bG, oG + k2, none⟩ = some (.int .i64 v) := (hw9.cell (p := ⟨bG, _, none⟩) hbG).trans (by have h := hcG 0 _ rfl; rw [Nat.mul_one, Nat.add_zero] at h; exact h)
            have ca : wr.cell? ⟨bA, oA + k2, none⟩ = some (.int .i64 x) := (hw9.cell (p := ⟨bA, _, none⟩) hbA).trans (by have h := hcA 0 _ rfl; rw [Nat.mul_one, Nat.add_zero] at h; exact h)
            have cb : wr.cell? ⟨bB, oB + k2, none⟩ = some (.int .i64 y) := (hw9.cell (p := ⟨bB, _, none⟩) hbB).trans (by have h := hcB 0 _ rfl; rw [Nat.mul_one, Nat.add_zero] at h; exact h)
            have s0 : (0 : Int) ≤ (k2 : Int) := by omega
            have s1 : k2 < a.length := by omega
            have s2 : k2 < b.length := by omega
            clear hx hy hv hcG hcA hcB e1 e2
            have two : y ≤ x ∨ x < y := by omega
            rcases two with h | h
            · obtain rfl : v = x := by omega
              have q1 : decide (v < v) = false := decide_eq_false (by omega)
              have q2 : decide (v < y) = false := decide_eq_false (by omega)
              have q3 : (v != v) = false := by simp
              clear hmx
              go_wp2_with fail
              go_quiet (fail)
              go_wp2_with fail
              go_roundw
              case rel => exact ⟨k2 + 1, by go_num, by omega, by (repeat' (first | with_reducible exact Below.refl _ _ | with_reducible assumption | with_reducible refine Below.drew ?_ | with_reducible refine below_drewN ?_ _ | with_reducible refine Below.setCell ?_ ?_ _ | with_reducible refine Below.alloc ?_ ?_ _ | omega | (simp; done) | (simp; omega)))⟩
              case measure => simp [intOf]; omega
            · obtain rfl : v = y := by omega
              have q1 : decide (v < v) = false := decide_eq_false (by omega)
              have q2 : decide (v < x) = false := decide_eq_false (by omega)
              have q3 : (v != v) = false := by simp
              have q4 : (v != x) = true := by rw [bne_iff_ne]; omega
              clear hmx
              go_wp2_with fail
              go_quiet (fail)
              go_wp2_with fail
              go_roundw
              case rel => exact ⟨k2 + 1, by go_num, by omega, by (repeat' (first | with_reducible exact Below.refl _ _ | with_reducible assumption | with_reducible refine Below.drew ?_ | with_reducible refine below_drewN ?_ _ | with_reducible refine Below.setCell ?_ ?_ _ | with_reducible refine Below.alloc ?_ ?_ _ | omega | (simp; done) | (simp; omega)))⟩
              case measure => simp [intOf]; omega
          · obtain rfl : k2 = l.length := by omega
            go_wp2_with fail
            go_ret
            exact ⟨rfl, stepH HWD.out (stepH hw63 hw9)⟩
      · rw [if_neg hl] at hret
        have hret : e = _ := hret
        subst hret
        have e1 : ((a.length : Int) == (b.length : Int)) = false := by rw [beq_eq_false_iff_ne]; omega
        clear hl
        have hc' := (HM.out.below (stepH HWD.out hw63)).cell 0 (by decide)
        have hen := fun w => eql_nil (E 0) w
        have hne := fun w => neq_err (E 0) w
        go_wp2_with fail
        go_loopw [17] (fun i wr => i = .int .i64 0 ∧ Below w6.heap.size w6 wr) (fun i _ => 0)
        case atStart => exact ⟨rfl, by (repeat' (first | with_reducible exact Below.refl _ _ | with_reducible assumption | with_reducible refine Below.drew ?_ | with_reducible refine below_drewN ?_ _ | with_reducible refine Below.setCell ?_ ?_ _ | with_reducible refine Below.alloc ?_ ?_ _ | omega | (simp; done) | (simp; omega)))⟩
        case round =>
          obtain ⟨rfl, hw9⟩ := hrel
          go_wp2_with fail
          go_ret
          exact ⟨rfl, stepH HWD.out hw9⟩
    · rename_i s
      rw [hs] at hret
      obtain ⟨v, rfl, own, hg⟩ := hret
      obtain ⟨AS, cS, hv, _, _, hrS⟩ := Own.rows (enc := encB) (size := 4) (fun _ _ => rfl) own
      subst hv
      obtain ⟨l1, l2, l3, hat, hri⟩ := scale_ok hs
      have HS := Lib.hid hrS
      have HG := Lib.hid hg
      have HAT := Lib.hid hat
      have HRI := Lib.hid hri
      clear hs own hrS hg hat hri
      have HE4 := Lib.hid (HE.out.below HWD.out)
      have f1 : ((s.length : Int) != (a.length : Int) + 1) = false := by rw [bne_eq_false_iff_eq]; omega
      have f2 : ((s.length : Int) != (b.length : Int)) = false := by rw [bne_eq_false_iff_eq]; omega
      have l1a : s.length ≤ a.length + 1 := by omega
      have l1b : a.length + 1 ≤ s.length := by omega
      have l2a : s.length ≤ b.length := by omega
      have l2b : b.length ≤ s.length := by omega
      clear l1 l2
      go_wp2_with fail
      go_loopw [10] (fun i wr => ∃ k : Nat, i = .int .i64 k ∧ k ≤ s.length ∧ Below w6.heap.size w6 wr) (fun i _ => s.length - (intOf i).toNat)
      case atStart => exact ⟨0, rfl, Nat.zero_le _, Below.refl _ _⟩
      case round =>
        obtain ⟨k, rfl, hk, hw0⟩ := hrel
        have z0 := hw0.size
        by_cases hlt : k < s.length
        · obtain ⟨⟨f, r⟩, hx⟩ : ∃ x, s[k]? = some x := ⟨s[k], List.getElem?_eq_getElem hlt⟩
          obtain ⟨y, hy⟩ : ∃ y, b[k]? = some y := ⟨b[k]'(by omega), List.getElem?_eq_getElem _⟩
          obtain ⟨hmk0, hfr0⟩ := HAT.out k _ hx
          have hmk : makeR y den = .ok r := by rw [getD_of hy] at hmk0; exact hmk0
          have hfr : f = ((lastT a k : Int) : Rat) := hfr0
          obtain ⟨gf0, gr0⟩ := HG.out _ (List.mem_of_getElem? hx)
          have gf : Good f := gf0
          have gr : Good r := gr0
          clear hmk0 hfr0 gf0 gr0
          obtain ⟨t, ht⟩ : ∃ t, t = lastT a k := ⟨_, rfl⟩
          rw [← ht] at hfr
          subst hfr
          obtain ⟨bS, offS, rfl, hbS, hcS⟩ := HS.out k _ hx
          have S0 : Hid (w6.cell? ⟨bS, offS + k * 4, none⟩ = some (.int .i64 t)) := by have h := hcS 0 _ rfl; rw [Rat.num_intCast] at h; exact h
          have S1 : Hid (w6.cell? ⟨bS, offS + k * 4 + 1, none⟩ = some (.int .i64 1)) := by have h := hcS 1 _ rfl; rw [Rat.den_intCast] at h; exact h
          have S2 : Hid (w6.cell? ⟨bS, offS + k * 4 + 2, none⟩ = some (.int .i64 r.num)) := hcS 2 _ rfl
          have S3 : Hid (w6.cell? ⟨bS, offS + k * 4 + 2 + 1, none⟩ = some (.int .i64 r.den)) := hcS 3 _ rfl
          obtain ⟨bB, offB, rfl, hbB, hcB⟩ := HB4.out k _ hy
          have Y0 : Hid (w6.cell? ⟨bB, offB + k, none⟩ = some (.int .i64 y)) := by have h := hcB 0 _ rfl; rw [Nat.mul_one, Nat.add_zero] at h; exact h
          obtain ⟨y1, y2⟩ := HJ.out y (List.mem_of_getElem? hy)
          have HMK := Lib.hid hmk
          have HT := Lib.hid ht
          have HGF := Lib.hid gf
          have HGR := Lib.hid gr
          have NR := num_le gr
          have NT := num_le gf
          rw [Rat.num_intCast, Rat.den_intCast] at NT
          have VT := valid_num gf
          rw [Rat.num_intCast, Rat.den_intCast] at VT
          have HVT := Lib.hid VT
          have HVR := Lib.hid (valid_num gr)
          clear hx hy hmk gf gr ht hcS hcB VT
          have s0 : (0 : Int) ≤ (k : Int) := by omega
          have s1 : (k : Int) < (s.length : Int) := by omega
          have s2 : k < b.length := by omega
          have yc : wr.cell? ⟨bB, offB + k, none⟩ = some (.int .i64 y) := (hw0.cell (p := ⟨bB, _, none⟩) hbB).trans Y0.out
          have zero : k = 0 ∨ 0 < k := by omega
          rcases zero with h0 | h0
          · obtain rfl : t = 0 := by rw [HT.out, h0]; rfl
            clear yc
            subst h0
            have h0s : 0 < s.length := by omega
            have h0b : 0 < b.length := by omega
            replace S0 : Hid (w6.cell? ⟨bS, offS, none⟩ = some (.int .i64 0)) := by have h := S0.out; show _ = _; simpa using h
            replace S1 : Hid (w6.cell? ⟨bS, offS + 1, none⟩ = some (.int .i64 1)) := by have h := S1.out; show _ = _; simpa using h
            replace S2 : Hid (w6.cell? ⟨bS, offS + 2, none⟩ = some (.int .i64 r.num)) := by have h := S2.out; show _ = _; simpa using h
            replace S3 : Hid (w6.cell? ⟨bS, offS + 2 + 1, none⟩ = some (.int .i64 r.den)) := by have h := S3.out; show _ = _; simpa using h
            have yc : wr.cell? ⟨bB, offB, none⟩ = some (.int .i64 y) := (hw0.cell (p := ⟨bB, _, none⟩) hbB).trans (by have h := Y0.out; simpa using h)
            go_wp2_with fail
            refine (make_any y den E _ (by omega) (by omega) (by omega) (by omega) ((HE4.out.below (by (repeat' (first | with_reducible exact Below.refl _ _ | with_reducible assumption | with_reducible refine Below.drew ?_ | with_reducible refine below_drewN ?_ _ | with_reducible refine Below.setCell ?_ ?_ _ | with_reducible refine Below.alloc ?_ ?_ _ | omega | (simp; done) | (simp; omega))))).sub (by decide))).mono ?_
            rintro e w41 ⟨⟨n', d', err, rfl, hr⟩, hb41⟩
            have hw41 : Below w6.heap.size w6 w41 := stepH (by (repeat' (first | with_reducible exact Below.refl _ _ | with_reducible assumption | with_reducible refine Below.drew ?_ | with_reducible refine below_drewN ?_ _ | with_reducible refine Below.setCell ?_ ?_ _ | with_reducible refine Below.alloc ?_ ?_ _ | omega | (simp; done) | (simp; omega)))) hb41
            rw [HMK.out] at hr
            obtain ⟨rfl, rfl, rfl⟩ := hr
            have z41 := hw41.size
            clear hb41 hw0 z0
            clear yc
            have s0c : w41.cell? ⟨bS, offS, none⟩ = some (.int .i64 0) := (hw41.cell (p := ⟨bS, _, none⟩) hbS).trans S0.out
            have s1c : w41.cell? ⟨bS, offS + 1, none⟩ = some (.int .i64 1) := (hw41.cell (p := ⟨bS, _, none⟩) hbS).trans S1.out
            have s2c : w41.cell? ⟨bS, offS + 2, none⟩ = some (.int .i64 r.num) := (hw41.cell (p := ⟨bS, _, none⟩) hbS).trans S2.out
            have s3c : w41.cell? ⟨bS, offS + 2 + 1, none⟩ = some (.int .i64 r.den) := (hw41.cell (p := ⟨bS, _, none⟩) hbS).trans S3.out
            have neS : bS < w41.heap.size := by have := hw41.size; omega
            go_wp2_with fail
            refine (valid_is _ HVT.out (by omega) (by omega) (by omega) (by omega)).mono ?_
            rintro e w42 ⟨rfl, hb42⟩
            have hw42 : Below w6.heap.size w6 w42 := stepH (by (repeat' (first | with_reducible exact Below.refl _ _ | with_reducible assumption | with_reducible refine Below.drew ?_ | with_reducible refine below_drewN ?_ _ | with_reducible refine Below.setCell ?_ ?_ _ | with_reducible refine Below.alloc ?_ ?_ _ | omega | (simp; done) | (simp; omega)))) hb42
            have X := keepH hb42 (g := w41.heap.size) (blk_new rfl)
            have z42 := hw42.size
            clear hb42 hw41 z41
            have cX := cellH X
            obtain ⟨lX, lX1, lX2⟩ := ltH X
            clear neS s0c s1c s2c s3c
            have s0c : w42.cell? ⟨bS, offS, none⟩ = some (.int .i64 0) := (hw42.cell (p := ⟨bS, _, none⟩) hbS).trans S0.out
            have s1c : w42.cell? ⟨bS, offS + 1, none⟩ = some (.int .i64 1) := (hw42.cell (p := ⟨bS, _, none⟩) hbS).trans S1.out
            have s2c : w42.cell? ⟨bS, offS + 2, none⟩ = some (.int .i64 r.num) := (hw42.cell (p := ⟨bS, _, none⟩) hbS).trans S2.out
            have s3c : w42.cell? ⟨bS, offS + 2 + 1, none⟩ = some (.int .i64 r.den) := (hw42.cell (p := ⟨bS, _, none⟩) hbS).trans S3.out
            go_wp2_with fail
            refine (valid_is _ HVR.out (by omega) (by omega) (by omega) (by omega)).mono ?_
            rintro e w43 ⟨rfl, hb43⟩
            have hw43 : Below w6.heap.size w6 w43 := stepH (by (repeat' (first | with_reducible exact Below.refl _ _ | with_reducible assumption | with_reducible refine Below.drew ?_ | with_reducible refine below_drewN ?_ _ | with_reducible refine Below.setCell ?_ ?_ _ | with_reducible refine Below.alloc ?_ ?_ _ | omega | (simp; done) | (simp; omega)))) hb43
            replace X := keepH hb43 X.out
            have z43 := hw43.size
            clear hb43 hw42 z42
            clear cX lX lX1 lX2
            have cX := cellH X
            obtain ⟨lX, lX1, lX2⟩ := ltH X
            clear s0c s1c s2c s3c
            have s0c : w43.cell? ⟨bS, offS, none⟩ = some (.int .i64 0) := (hw43.cell (p := ⟨bS, _, none⟩) hbS).trans S0.out
            have s1c : w43.cell? ⟨bS, offS + 1, none⟩ = some (.int .i64 1) := (hw43.cell (p := ⟨bS, _, none⟩) hbS).trans S1.out
            have s2c : w43.cell? ⟨bS, offS + 2, none⟩ = some (.int .i64 r.num) := (hw43.cell (p := ⟨bS, _, none⟩) hbS).trans S2.out
            have s3c : w43.cell? ⟨bS, offS + 2 + 1, none⟩ = some (.int .i64 r.den) := (hw43.cell (p := ⟨bS, _, none⟩) hbS).trans S3.out
            have x0c : w43.cell? ⟨w41.heap.size, 0, none⟩ = some (.int .i64 r.num) := cellH X 0
            have x1c : w43.cell? ⟨w41.heap.size, 1, none⟩ = some (.int .i64 r.den) := cellH X 1
            go_wp2_with fail
            refine wp_region_held_drew (S := fun w' => w'.cell? ⟨w41.heap.size, 0, none⟩ = some (.int .i64 r.num) ∧ w'.cell? ⟨w41.heap.size, 1, none⟩ = some (.int .i64 r.den) ∧ w'.cell? ⟨bS, offS, none⟩ = some (.int .i64 0) ∧ w'.cell? ⟨bS, offS + 1, none⟩ = some (.int .i64 1) ∧ w'.cell? ⟨bS, offS + 2, none⟩ = some (.int .i64 r.num) ∧ w'.cell? ⟨bS, offS + 2 + 1, none⟩ = some (.int .i64 r.den)) (by kernel_rfl) ?_ (fun hH0 => ?_)
            · exact ⟨x0c, x1c, s0c, s1c, s2c, s3c⟩
            refine wpAnyH_take (i := 0) (oi := { dst := some 97, op := Go.Op.move (Go.Operand.tmp 14), type := 4, pos := "free.go:146", after := #[], guard := none }) (v := ?_) rfl (by kernel_rfl) (by kernel_rfl) (by kernel_rfl) (fun _ _ _ h => h) (Or.inl ⟨by rfl, ?_⟩) (by assumption) ?_
            rotate_left
            · intro wq hSw; (try dsimp only at hSw); go_simp; (try with_reducible rfl)
            try simp only [Act.put, List.setIfInBounds_toArray, List.set_cons_zero, List.set_cons_succ]
            refine wpAnyH_take (i := 1) (oi := { dst := some 98, op := Go.Op.unOp Go.UnOp.not 4 (Go.Operand.tmp 97), type := 4, pos := "free.go:146", after := #[{ on := 0, ground := Go.Ground.data }], guard := none }) (v := ?_) rfl (by kernel_rfl) (by kernel_rfl) (by kernel_rfl) (fun _ _ _ h => h) (Or.inl ⟨by rfl, ?_⟩) (by assumption) ?_
            rotate_left
            · intro wq hSw; (try dsimp only at hSw); go_simp; (try with_reducible rfl)
            try simp only [Act.put, List.setIfInBounds_toArray, List.set_cons_zero, List.set_cons_succ]
            refine wpAnyH_take (i := 2) (oi := { dst := some 99, op := Go.Op.move (Go.Operand.tmp 98), type := 4, pos := "free.go:146", after := #[{ on := 1, ground := Go.Ground.data }], guard := none }) (v := ?_) rfl (by kernel_rfl) (by kernel_rfl) (by kernel_rfl) (fun _ _ _ h => h) (Or.inl ⟨by rfl, ?_⟩) (by assumption) ?_
            rotate_left
            · intro wq hSw; (try dsimp only at hSw); go_simp; (try with_reducible rfl)
            try simp only [Act.put, List.setIfInBounds_toArray, List.set_cons_zero, List.set_cons_succ]
            refine wpAnyH_take (i := 3) (oi := { dst := some 100, op := Go.Op.move (Go.Operand.tmp 12), type := 25, pos := "free.go:146", after := #[{ on := 2, ground := Go.Ground.guard }], guard := some (2, false) }) (v := ?_) rfl (by kernel_rfl) (by kernel_rfl) (by kernel_rfl) (fun _ _ _ h => h) (Or.inl ⟨by rfl, ?_⟩) (by assumption) ?_
            rotate_left
            · intro wq hSw; (try dsimp only at hSw); go_simp; (try with_reducible rfl)
            try simp only [Act.put, List.setIfInBounds_toArray, List.set_cons_zero, List.set_cons_succ]
            refine wpAnyH_take (i := 4) (oi := { dst := some 101, op := Go.Op.binOp Go.BinOp.neq 25 (Go.Operand.tmp 100) (Go.Operand.const Go.Value.nilIface) 25, type := 4, pos := "free.go:146", after := #[{ on := 3, ground := Go.Ground.data }, { on := 2, ground := Go.Ground.guard }], guard := some (2, false) }) (v := ?_) rfl (by kernel_rfl) (by kernel_rfl) (by kernel_rfl) (fun _ _ _ h => h) (Or.inl ⟨by rfl, ?_⟩) (by assumption) ?_
            rotate_left
            · intro wq hSw; (try dsimp only at hSw); go_simp; (try with_reducible rfl)
            try simp only [Act.put, List.setIfInBounds_toArray, List.set_cons_zero, List.set_cons_succ]
            refine wpAnyH_take (i := 5) (oi := { dst := some 102, op := Go.Op.pick (Go.Operand.tmp 99) (Go.Operand.const (Go.Value.bool true)) (Go.Operand.tmp 101), type := 4, pos := "free.go:146", after := #[{ on := 2, ground := Go.Ground.data }, { on := 4, ground := Go.Ground.data }], guard := none }) (v := ?_) rfl (by kernel_rfl) (by kernel_rfl) (by kernel_rfl) (fun _ _ _ h => h) (Or.inl ⟨by rfl, ?_⟩) (by assumption) ?_
            rotate_left
            · intro wq hSw; (try dsimp only at hSw); go_simp; (try with_reducible rfl)
            try simp only [Act.put, List.setIfInBounds_toArray, List.set_cons_zero, List.set_cons_succ]
            refine wpAnyH_take (i := 6) (oi := { dst := some 103, op := Go.Op.move (Go.Operand.tmp 102), type := 4, pos := "free.go:146", after := #[{ on := 5, ground := Go.Ground.data }, { on := 2, ground := Go.Ground.chain }], guard := none }) (v := ?_) rfl (by kernel_rfl) (by kernel_rfl) (by kernel_rfl) (fun _ _ _ h => h) (Or.inl ⟨by rfl, ?_⟩) (by assumption) ?_
            rotate_left
            · intro wq hSw; (try dsimp only at hSw); go_simp; (try with_reducible rfl)
            try simp only [Act.put, List.setIfInBounds_toArray, List.set_cons_zero, List.set_cons_succ]
            refine wpAnyH_take (i := 7) (oi := { dst := some 104, op := Go.Op.load 30 (Go.Operand.tmp 11), type := 30, pos := "free.go:146", after := #[{ on := 6, ground := Go.Ground.guard }], guard := some (6, false) }) (v := ?_) rfl (by kernel_rfl) (by kernel_rfl) (by kernel_rfl) (fun _ _ _ h => h) (Or.inl ⟨by rfl, ?_⟩) (by assumption) ?_
            rotate_left
            · intro wq hSw; (try dsimp only at hSw); go_simp; (try with_reducible rfl)
            try simp only [Act.put, List.setIfInBounds_toArray, List.set_cons_zero, List.set_cons_succ]
            refine wpAnyH_take (i := 8) (oi := { dst := some 105, op := Go.Op.move (Go.Operand.tmp 8), type := 61, pos := "free.go:146", after := #[{ on := 6, ground := Go.Ground.guard }], guard := some (6, false) }) (v := ?_) rfl (by kernel_rfl) (by kernel_rfl) (by kernel_rfl) (fun _ _ _ h => h) (Or.inl ⟨by rfl, ?_⟩) (by assumption) ?_
            rotate_left
            · intro wq hSw; (try dsimp only at hSw); go_simp; (try with_reducible rfl)
            try simp only [Act.put, List.setIfInBounds_toArray, List.set_cons_zero, List.set_cons_succ]
            refine wpAnyH_take (i := 9) (oi := { dst := some 106, op := Go.Op.move (Go.Operand.tmp 10), type := 3, pos := "free.go:146", after := #[{ on := 6, ground := Go.Ground.guard }], guard := some (6, false) }) (v := ?_) rfl (by kernel_rfl) (by kernel_rfl) (by kernel_rfl) (fun _ _ _ h => h) (Or.inl ⟨by rfl, ?_⟩) (by assumption) ?_
            rotate_left
            · intro wq hSw; (try dsimp only at hSw); go_simp; (try with_reducible rfl)
            try simp only [Act.put, List.setIfInBounds_toArray, List.set_cons_zero, List.set_cons_succ]
            refine wpAnyH_take (i := 10) (oi := { dst := some 107, op := Go.Op.indexAddr 61 (Go.Operand.tmp 105) (Go.Operand.tmp 106), type := 0, pos := "free.go:146", after := #[{ on := 8, ground := Go.Ground.data }, { on := 9, ground := Go.Ground.data }, { on := 6, ground := Go.Ground.guard }], guard := some (6, false) }) (v := ?_) rfl (by kernel_rfl) (by kernel_rfl) (by kernel_rfl) (fun _ _ _ h => h) (Or.inl ⟨by rfl, ?_⟩) (by assumption) ?_
            rotate_left
            · intro wq hSw; (try dsimp only at hSw); go_simp; (try with_reducible rfl)
            try simp only [Act.put, List.setIfInBounds_toArray, List.set_cons_zero, List.set_cons_succ]
            refine wpAnyH_take (i := 11) (oi := { dst := some 108, op := Go.Op.fieldAddr 67 (Go.Operand.tmp 107) 1, type := 0, pos := "free.go:146", after := #[{ on := 10, ground := Go.Ground.data }, { on := 6, ground := Go.Ground.guard }], guard := some (6, false) }) (v := ?_) rfl (by kernel_rfl) (by kernel_rfl) (by kernel_rfl) (fun _ _ _ h => h) (Or.inl ⟨by rfl, ?_⟩) (by assumption) ?_
            rotate_left
            · intro wq hSw; (try dsimp only at hSw); go_simp; (try with_reducible rfl)
            try simp only [Act.put, List.setIfInBounds_toArray, List.set_cons_zero, List.set_cons_succ]
            refine wpAnyH_take (i := 12) (oi := { dst := some 109, op := Go.Op.load 30 (Go.Operand.tmp 108), type := 30, pos := "free.go:146", after := #[{ on := 11, ground := Go.Ground.data }, { on := 6, ground := Go.Ground.guard }], guard := some (6, false) }) (v := ?_) rfl (by kernel_rfl) (by kernel_rfl) (by kernel_rfl) (fun _ _ _ h => h) (Or.inl ⟨by rfl, ?_⟩) (by assumption) ?_
            rotate_left
            · intro wq hSw; (try dsimp only at hSw); go_simp; (try with_reducible rfl)
            try simp only [Act.put, List.setIfInBounds_toArray, List.set_cons_zero, List.set_cons_succ]
            refine wpAnyH_ready (rs := [13]) (by kernel_rfl) (by simp) ?_
            refine AllReadyH.cons (o := { dst := some 110, op := Go.Op.call { callee := Go.Callee.value (Go.Operand.func 17), args := #[Go.Operand.tmp 104, Go.Operand.tmp 109], argTypes := #[30, 30] }, type := 4, pos := "free.go:146", after := #[{ on := 7, ground := Go.Ground.data }, { on := 12, ground := Go.Ground.data }, { on := 6, ground := Go.Ground.chain }, { on := 6, ground := Go.Ground.guard }], guard := some (6, false) }) rfl (fun K hK => ?_) ?_
            rotate_left
            · exact AllReadyH.nil
            go_simp
            (first | (go_at_call 17; refine (first_same _ _ _).mono ?_; rintro e w45 ⟨rfl, hb45⟩; have hw45 : Below w6.heap.size w6 w45 := stepH (by (repeat' (first | with_reducible exact Below.refl _ _ | with_reducible assumption | with_reducible refine Below.drew ?_ | with_reducible refine below_drewN ?_ _ | with_reducible refine Below.setCell ?_ ?_ _ | with_reducible refine Below.alloc ?_ ?_ _ | omega | (simp; done) | (simp; omega)))) hb45; replace X := keepH hb45 (drew_old X.out); have x0c : w45.cell? ⟨w41.heap.size, 0, none⟩ = some (.int .i64 r.num) := cellH X 0; have x1c : w45.cell? ⟨w41.heap.size, 1, none⟩ = some (.int .i64 r.den) := cellH X 1; have s0c : w45.cell? ⟨bS, offS, none⟩ = some (.int .i64 0) := (hw45.cell (p := ⟨bS, _, none⟩) hbS).trans S0.out; have s1c : w45.cell? ⟨bS, offS + 1, none⟩ = some (.int .i64 1) := (hw45.cell (p := ⟨bS, _, none⟩) hbS).trans S1.out; have s2c : w45.cell? ⟨bS, offS + 2, none⟩ = some (.int .i64 r.num) := (hw45.cell (p := ⟨bS, _, none⟩) hbS).trans S2.out; have s3c : w45.cell? ⟨bS, offS + 2 + 1, none⟩ = some (.int .i64 r.den) := (hw45.cell (p := ⟨bS, _, none⟩) hbS).trans S3.out) | (go_at_call 28; refine (fr16_any _ _ _).mono ?_; rintro e w45 ⟨rfl, hb45⟩; have hw45 : Below w6.heap.size w6 w45 := stepH (by (repeat' (first | with_reducible exact Below.refl _ _ | with_reducible assumption | with_reducible refine Below.drew ?_ | with_reducible refine below_drewN ?_ _ | with_reducible refine Below.setCell ?_ ?_ _ | with_reducible refine Below.alloc ?_ ?_ _ | omega | (simp; done) | (simp; omega)))) hb45; replace X := keepH hb45 (drew_old X.out); have x0c : w45.cell? ⟨w41.heap.size, 0, none⟩ = some (.int .i64 r.num) := cellH X 0; have x1c : w45.cell? ⟨w41.heap.size, 1, none⟩ = some (.int .i64 r.den) := cellH X 1; have s0c : w45.cell? ⟨bS, offS, none⟩ = some (.int .i64 0) := (hw45.cell (p := ⟨bS, _, none⟩) hbS).trans S0.out; have s1c : w45.cell? ⟨bS, offS + 1, none⟩ = some (.int .i64 1) := (hw45.cell (p := ⟨bS, _, none⟩) hbS).trans S1.out; have s2c : w45.cell? ⟨bS, offS + 2, none⟩ = some (.int .i64 r.num) := (hw45.cell (p := ⟨bS, _, none⟩) hbS).trans S2.out; have s3c : w45.cell? ⟨bS, offS + 2 + 1, none⟩ = some (.int .i64 r.den) := (hw45.cell (p := ⟨bS, _, none⟩) hbS).trans S3.out))
            go_wp2_with fail
            refine hK.out _ _ ?_ (fun hH1 => ?_)
            · (try dsimp only); exact ⟨x0c, x1c, s0c, s1c, s2c, s3c⟩
            clear hK K
            clear hH0
            try simp only [Act.put, List.setIfInBounds_toArray, List.set_cons_zero, List.set_cons_succ]
            refine wpAnyH_take (i := 14) (oi := { dst := some 111, op := Go.Op.unOp Go.UnOp.not 4 (Go.Operand.tmp 110), type := 4, pos := "free.go:146", after := #[{ on := 13, ground := Go.Ground.data }, { on := 6, ground := Go.Ground.guard }], guard := some (6, false) }) (v := ?_) rfl (by kernel_rfl) (by kernel_rfl) (by kernel_rfl) (fun _ _ _ h => h) (Or.inl ⟨by rfl, ?_⟩) (by assumption) ?_
            rotate_left
            · intro wq hSw; (try dsimp only at hSw); go_simp; (try with_reducible rfl)
            try simp only [Act.put, List.setIfInBounds_toArray, List.set_cons_zero, List.set_cons_succ]
            refine wpAnyH_take (i := 15) (oi := { dst := some 112, op := Go.Op.pick (Go.Operand.tmp 103) (Go.Operand.const (Go.Value.bool true)) (Go.Operand.tmp 111), type := 4, pos := "free.go:146", after := #[{ on := 6, ground := Go.Ground.data }, { on := 14, ground := Go.Ground.data }], guard := none }) (v := ?_) rfl (by kernel_rfl) (by kernel_rfl) (by kernel_rfl) (fun _ _ _ h => h) (Or.inl ⟨by rfl, ?_⟩) (by assumption) ?_
            rotate_left
            · intro wq hSw; (try dsimp only at hSw); go_simp; (try with_reducible rfl)
            try simp only [Act.put, List.setIfInBounds_toArray, List.set_cons_zero, List.set_cons_succ]
            refine wpAnyH_take (i := 16) (oi := { dst := some 113, op := Go.Op.move (Go.Operand.tmp 112), type := 4, pos := "free.go:146", after := #[{ on := 15, ground := Go.Ground.data }, { on := 13, ground := Go.Ground.chain }], guard := none }) (v := ?_) rfl (by kernel_rfl) (by kernel_rfl) (by kernel_rfl) (fun _ _ _ h => h) (Or.inl ⟨by rfl, ?_⟩) (by assumption) ?_
            rotate_left
            · intro wq hSw; (try dsimp only at hSw); go_simp; (try with_reducible rfl)
            try simp only [Act.put, List.setIfInBounds_toArray, List.set_cons_zero, List.set_cons_succ]
            refine wpAnyH_take (i := 17) (oi := { dst := some 114, op := Go.Op.move (Go.Operand.tmp 8), type := 61, pos := "free.go:146", after := #[{ on := 16, ground := Go.Ground.guard }], guard := some (16, false) }) (v := ?_) rfl (by kernel_rfl) (by kernel_rfl) (by kernel_rfl) (fun _ _ _ h => h) (Or.inl ⟨by rfl, ?_⟩) (by assumption) ?_
            rotate_left
            · intro wq hSw; (try dsimp only at hSw); go_simp; (try with_reducible rfl)
            try simp only [Act.put, List.setIfInBounds_toArray, List.set_cons_zero, List.set_cons_succ]
            refine wpAnyH_take (i := 18) (oi := { dst := some 115, op := Go.Op.move (Go.Operand.tmp 10), type := 3, pos := "free.go:146", after := #[{ on := 16, ground := Go.Ground.guard }], guard := some (16, false) }) (v := ?_) rfl (by kernel_rfl) (by kernel_rfl) (by kernel_rfl) (fun _ _ _ h => h) (Or.inl ⟨by rfl, ?_⟩) (by assumption) ?_
            rotate_left
            · intro wq hSw; (try dsimp only at hSw); go_simp; (try with_reducible rfl)
            try simp only [Act.put, List.setIfInBounds_toArray, List.set_cons_zero, List.set_cons_succ]
            refine wpAnyH_take (i := 19) (oi := { dst := some 116, op := Go.Op.indexAddr 61 (Go.Operand.tmp 114) (Go.Operand.tmp 115), type := 0, pos := "free.go:146", after := #[{ on := 17, ground := Go.Ground.data }, { on := 18, ground := Go.Ground.data }, { on := 16, ground := Go.Ground.guard }], guard := some (16, false) }) (v := ?_) rfl (by kernel_rfl) (by kernel_rfl) (by kernel_rfl) (fun _ _ _ h => h) (Or.inl ⟨by rfl, ?_⟩) (by assumption) ?_
            rotate_left
            · intro wq hSw; (try dsimp only at hSw); go_simp; (try with_reducible rfl)
            try simp only [Act.put, List.setIfInBounds_toArray, List.set_cons_zero, List.set_cons_succ]
            refine wpAnyH_take (i := 20) (oi := { dst := some 117, op := Go.Op.fieldAddr 67 (Go.Operand.tmp 116) 0, type := 0, pos := "free.go:146", after := #[{ on := 19, ground := Go.Ground.data }, { on := 16, ground := Go.Ground.guard }], guard := some (16, false) }) (v := ?_) rfl (by kernel_rfl) (by kernel_rfl) (by kernel_rfl) (fun _ _ _ h => h) (Or.inl ⟨by rfl, ?_⟩) (by assumption) ?_
            rotate_left
            · intro wq hSw; (try dsimp only at hSw); go_simp; (try with_reducible rfl)
            try simp only [Act.put, List.setIfInBounds_toArray, List.set_cons_zero, List.set_cons_succ]
            refine wpAnyH_take (i := 21) (oi := { dst := some 118, op := Go.Op.load 30 (Go.Operand.tmp 117), type := 30, pos := "free.go:146", after := #[{ on := 20, ground := Go.Ground.data }, { on := 16, ground := Go.Ground.guard }], guard := some (16, false) }) (v := ?_) rfl (by kernel_rfl) (by kernel_rfl) (by kernel_rfl) (fun _ _ _ h => h) (Or.inl ⟨by rfl, ?_⟩) (by assumption) ?_
            rotate_left
            · intro wq hSw; (try dsimp only at hSw); go_simp; (try with_reducible rfl)
            try simp only [Act.put, List.setIfInBounds_toArray, List.set_cons_zero, List.set_cons_succ]
            refine wpAnyH_take (i := 22) (oi := { dst := some 119, op := Go.Op.move (Go.Operand.tmp 13), type := 3, pos := "free.go:146", after := #[{ on := 16, ground := Go.Ground.guard }], guard := some (16, false) }) (v := ?_) rfl (by kernel_rfl) (by kernel_rfl) (by kernel_rfl) (fun _ _ _ h => h) (Or.inl ⟨by rfl, ?_⟩) (by assumption) ?_
            rotate_left
            · intro wq hSw; (try dsimp only at hSw); go_simp; (try with_reducible rfl)
            try simp only [Act.put, List.setIfInBounds_toArray, List.set_cons_zero, List.set_cons_succ]
            refine wpAnyH_ready (rs := [23]) (by kernel_rfl) (by simp) ?_
            refine AllReadyH.cons (o := { dst := some 120, op := Go.Op.call { callee := Go.Callee.value (Go.Operand.func 28), args := #[Go.Operand.tmp 119, Go.Operand.const (Go.Value.int Go.IntKind.i64 1)], argTypes := #[3, 3] }, type := 30, pos := "free.go:146", after := #[{ on := 22, ground := Go.Ground.data }, { on := 16, ground := Go.Ground.chain }, { on := 16, ground := Go.Ground.guard }], guard := some (16, false) }) rfl (fun K hK => ?_) ?_
            rotate_left
            · exact AllReadyH.nil
            go_simp
            (first | (go_at_call 17; refine (first_same _ _ _).mono ?_; rintro e w46 ⟨rfl, hb46⟩; have hw46 : Below w6.heap.size w6 w46 := stepH (by (repeat' (first | with_reducible exact Below.refl _ _ | with_reducible assumption | with_reducible refine Below.drew ?_ | with_reducible refine below_drewN ?_ _ | with_reducible refine Below.setCell ?_ ?_ _ | with_reducible refine Below.alloc ?_ ?_ _ | omega | (simp; done) | (simp; omega)))) hb46; replace X := keepH hb46 X.out; have x0c : w46.cell? ⟨w41.heap.size, 0, none⟩ = some (.int .i64 r.num) := cellH X 0; have x1c : w46.cell? ⟨w41.heap.size, 1, none⟩ = some (.int .i64 r.den) := cellH X 1; have s0c : w46.cell? ⟨bS, offS, none⟩ = some (.int .i64 0) := (hw46.cell (p := ⟨bS, _, none⟩) hbS).trans S0.out; have s1c : w46.cell? ⟨bS, offS + 1, none⟩ = some (.int .i64 1) := (hw46.cell (p := ⟨bS, _, none⟩) hbS).trans S1.out; have s2c : w46.cell? ⟨bS, offS + 2, none⟩ = some (.int .i64 r.num) := (hw46.cell (p := ⟨bS, _, none⟩) hbS).trans S2.out; have s3c : w46.cell? ⟨bS, offS + 2 + 1, none⟩ = some (.int .i64 r.den) := (hw46.cell (p := ⟨bS, _, none⟩) hbS).trans S3.out) | (go_at_call 28; refine (fr16_any _ _ _).mono ?_; rintro e w46 ⟨rfl, hb46⟩; have hw46 : Below w6.heap.size w6 w46 := stepH (by (repeat' (first | with_reducible exact Below.refl _ _ | with_reducible assumption | with_reducible refine Below.drew ?_ | with_reducible refine below_drewN ?_ _ | with_reducible refine Below.setCell ?_ ?_ _ | with_reducible refine Below.alloc ?_ ?_ _ | omega | (simp; done) | (simp; omega)))) hb46; replace X := keepH hb46 X.out; have x0c : w46.cell? ⟨w41.heap.size, 0, none⟩ = some (.int .i64 r.num) := cellH X 0; have x1c : w46.cell? ⟨w41.heap.size, 1, none⟩ = some (.int .i64 r.den) := cellH X 1; have s0c : w46.cell? ⟨bS, offS, none⟩ = some (.int .i64 0) := (hw46.cell (p := ⟨bS, _, none⟩) hbS).trans S0.out; have s1c : w46.cell? ⟨bS, offS + 1, none⟩ = some (.int .i64 1) := (hw46.cell (p := ⟨bS, _, none⟩) hbS).trans S1.out; have s2c : w46.cell? ⟨bS, offS + 2, none⟩ = some (.int .i64 r.num) := (hw46.cell (p := ⟨bS, _, none⟩) hbS).trans S2.out; have s3c : w46.cell? ⟨bS, offS + 2 + 1, none⟩ = some (.int .i64 r.den) := (hw46.cell (p := ⟨bS, _, none⟩) hbS).trans S3.out))
            go_wp2_with fail
            refine hK.out _ _ ?_ (fun hH2 => ?_)
            · (try dsimp only); exact ⟨x0c, x1c, s0c, s1c, s2c, s3c⟩
            clear hK K
            clear hH1
            try simp only [Act.put, List.setIfInBounds_toArray, List.set_cons_zero, List.set_cons_succ]
            refine wpAnyH_ready (rs := [24]) (by kernel_rfl) (by simp) ?_
            refine AllReadyH.cons (o := { dst := some 121, op := Go.Op.call { callee := Go.Callee.value (Go.Operand.func 17), args := #[Go.Operand.tmp 118, Go.Operand.tmp 120], argTypes := #[30, 30] }, type := 4, pos := "free.go:146", after := #[{ on := 21, ground := Go.Ground.data }, { on := 23, ground := Go.Ground.data }, { on := 23, ground := Go.Ground.chain }, { on := 16, ground := Go.Ground.guard }], guard := some (16, false) }) rfl (fun K hK => ?_) ?_
            rotate_left
            · exact AllReadyH.nil
            go_simp
            (first | (go_at_call 17; refine (first_same _ _ _).mono ?_; rintro e w47 ⟨rfl, hb47⟩; have hw47 : Below w6.heap.size w6 w47 := stepH (by (repeat' (first | with_reducible exact Below.refl _ _ | with_reducible assumption | with_reducible refine Below.drew ?_ | with_reducible refine below_drewN ?_ _ | with_reducible refine Below.setCell ?_ ?_ _ | with_reducible refine Below.alloc ?_ ?_ _ | omega | (simp; done) | (simp; omega)))) hb47; replace X := keepH hb47 X.out; have x0c : w47.cell? ⟨w41.heap.size, 0, none⟩ = some (.int .i64 r.num) := cellH X 0; have x1c : w47.cell? ⟨w41.heap.size, 1, none⟩ = some (.int .i64 r.den) := cellH X 1; have s0c : w47.cell? ⟨bS, offS, none⟩ = some (.int .i64 0) := (hw47.cell (p := ⟨bS, _, none⟩) hbS).trans S0.out; have s1c : w47.cell? ⟨bS, offS + 1, none⟩ = some (.int .i64 1) := (hw47.cell (p := ⟨bS, _, none⟩) hbS).trans S1.out; have s2c : w47.cell? ⟨bS, offS + 2, none⟩ = some (.int .i64 r.num) := (hw47.cell (p := ⟨bS, _, none⟩) hbS).trans S2.out; have s3c : w47.cell? ⟨bS, offS + 2 + 1, none⟩ = some (.int .i64 r.den) := (hw47.cell (p := ⟨bS, _, none⟩) hbS).trans S3.out) | (go_at_call 28; refine (fr16_any _ _ _).mono ?_; rintro e w47 ⟨rfl, hb47⟩; have hw47 : Below w6.heap.size w6 w47 := stepH (by (repeat' (first | with_reducible exact Below.refl _ _ | with_reducible assumption | with_reducible refine Below.drew ?_ | with_reducible refine below_drewN ?_ _ | with_reducible refine Below.setCell ?_ ?_ _ | with_reducible refine Below.alloc ?_ ?_ _ | omega | (simp; done) | (simp; omega)))) hb47; replace X := keepH hb47 X.out; have x0c : w47.cell? ⟨w41.heap.size, 0, none⟩ = some (.int .i64 r.num) := cellH X 0; have x1c : w47.cell? ⟨w41.heap.size, 1, none⟩ = some (.int .i64 r.den) := cellH X 1; have s0c : w47.cell? ⟨bS, offS, none⟩ = some (.int .i64 0) := (hw47.cell (p := ⟨bS, _, none⟩) hbS).trans S0.out; have s1c : w47.cell? ⟨bS, offS + 1, none⟩ = some (.int .i64 1) := (hw47.cell (p := ⟨bS, _, none⟩) hbS).trans S1.out; have s2c : w47.cell? ⟨bS, offS + 2, none⟩ = some (.int .i64 r.num) := (hw47.cell (p := ⟨bS, _, none⟩) hbS).trans S2.out; have s3c : w47.cell? ⟨bS, offS + 2 + 1, none⟩ = some (.int .i64 r.den) := (hw47.cell (p := ⟨bS, _, none⟩) hbS).trans S3.out))
            go_wp2_with fail
            refine hK.out _ _ ?_ (fun hH3 => ?_)
            · (try dsimp only); exact ⟨x0c, x1c, s0c, s1c, s2c, s3c⟩
            clear hK K
            clear hH2
            try simp only [Act.put, List.setIfInBounds_toArray, List.set_cons_zero, List.set_cons_succ]
            refine wpAnyH_take (i := 25) (oi := { dst := some 122, op := Go.Op.unOp Go.UnOp.not 4 (Go.Operand.tmp 121), type := 4, pos := "free.go:146", after := #[{ on := 24, ground := Go.Ground.data }, { on := 16, ground := Go.Ground.guard }], guard := some (16, false) }) (v := ?_) rfl (by kernel_rfl) (by kernel_rfl) (by kernel_rfl) (fun _ _ _ h => h) (Or.inl ⟨by rfl, ?_⟩) (by assumption) ?_
            rotate_left
            · intro wq hSw; (try dsimp only at hSw); go_simp; (try with_reducible rfl)
            try simp only [Act.put, List.setIfInBounds_toArray, List.set_cons_zero, List.set_cons_succ]
            refine wpAnyH_take (i := 26) (oi := { dst := some 123, op := Go.Op.pick (Go.Operand.tmp 113) (Go.Operand.const (Go.Value.bool true)) (Go.Operand.tmp 122), type := 4, pos := "free.go:146", after := #[{ on := 16, ground := Go.Ground.data }, { on := 25, ground := Go.Ground.data }], guard := none }) (v := ?_) rfl (by kernel_rfl) (by kernel_rfl) (by kernel_rfl) (fun _ _ _ h => h) (Or.inl ⟨by rfl, ?_⟩) (by assumption) ?_
            rotate_left
            · intro wq hSw; (try dsimp only at hSw); go_simp; (try with_reducible rfl)
            try simp only [Act.put, List.setIfInBounds_toArray, List.set_cons_zero, List.set_cons_succ]
            refine wpAnyH_take (i := 27) (oi := { dst := some 124, op := Go.Op.move (Go.Operand.tmp 123), type := 4, pos := "free.go:146", after := #[{ on := 26, ground := Go.Ground.data }, { on := 24, ground := Go.Ground.chain }], guard := none }) (v := ?_) rfl (by kernel_rfl) (by kernel_rfl) (by kernel_rfl) (fun _ _ _ h => h) (Or.inl ⟨by rfl, ?_⟩) (by assumption) ?_
            rotate_left
            · intro wq hSw; (try dsimp only at hSw); go_simp; (try with_reducible rfl)
            try simp only [Act.put, List.setIfInBounds_toArray, List.set_cons_zero, List.set_cons_succ]
            refine wpAnyH_take (i := 28) (oi := { dst := some 125, op := Go.Op.move (Go.Operand.tmp 10), type := 3, pos := "free.go:146", after := #[{ on := 27, ground := Go.Ground.guard }], guard := some (27, false) }) (v := ?_) rfl (by kernel_rfl) (by kernel_rfl) (by kernel_rfl) (fun _ _ _ h => h) (Or.inl ⟨by rfl, ?_⟩) (by assumption) ?_
            rotate_left
            · intro wq hSw; (try dsimp only at hSw); go_simp; (try with_reducible rfl)
            try simp only [Act.put, List.setIfInBounds_toArray, List.set_cons_zero, List.set_cons_succ]
            refine wpAnyH_take (i := 29) (oi := { dst := some 126, op := Go.Op.binOp Go.BinOp.gtr 3 (Go.Operand.tmp 125) (Go.Operand.const (Go.Value.int Go.IntKind.i64 0)) 3, type := 4, pos := "free.go:146", after := #[{ on := 28, ground := Go.Ground.data }, { on := 27, ground := Go.Ground.guard }], guard := some (27, false) }) (v := ?_) rfl (by kernel_rfl) (by kernel_rfl) (by kernel_rfl) (fun _ _ _ h => h) (Or.inl ⟨by rfl, ?_⟩) (by assumption) ?_
            rotate_left
            · intro wq hSw; (try dsimp only at hSw); go_simp; (try with_reducible rfl)
            try simp only [Act.put, List.setIfInBounds_toArray, List.set_cons_zero, List.set_cons_succ]
            refine wpAnyH_take (i := 30) (oi := { dst := some 127, op := Go.Op.move (Go.Operand.tmp 126), type := 4, pos := "free.go:146", after := #[{ on := 29, ground := Go.Ground.data }, { on := 27, ground := Go.Ground.chain }, { on := 27, ground := Go.Ground.guard }], guard := some (27, false) }) (v := ?_) rfl (by kernel_rfl) (by kernel_rfl) (by kernel_rfl) (fun _ _ _ h => h) (Or.inl ⟨by rfl, ?_⟩) (by assumption) ?_
            rotate_left
            · intro wq hSw; (try dsimp only at hSw); go_simp; (try with_reducible rfl)
            try simp only [Act.put, List.setIfInBounds_toArray, List.set_cons_zero, List.set_cons_succ]
            refine wpAnyH_take (i := 31) (oi := { dst := some 128, op := Go.Op.move (Go.Operand.tmp 8), type := 61, pos := "free.go:146", after := #[{ on := 30, ground := Go.Ground.guard }], guard := some (30, true) }) (v := undef) rfl (by kernel_rfl) (by kernel_rfl) (by kernel_rfl) (fun _ _ _ h => h) (Or.inr ⟨by rfl, rfl⟩) (by assumption) ?_
            try simp only [Act.put, List.setIfInBounds_toArray, List.set_cons_zero, List.set_cons_succ]
            refine wpAnyH_take (i := 32) (oi := { dst := some 129, op := Go.Op.move (Go.Operand.tmp 10), type := 3, pos := "free.go:146", after := #[{ on := 30, ground := Go.Ground.guard }], guard := some (30, true) }) (v := undef) rfl (by kernel_rfl) (by kernel_rfl) (by kernel_rfl) (fun _ _ _ h => h) (Or.inr ⟨by rfl, rfl⟩) (by assumption) ?_
            try simp only [Act.put, List.setIfInBounds_toArray, List.set_cons_zero, List.set_cons_succ]
            refine wpAnyH_take (i := 33) (oi := { dst := some 130, op := Go.Op.binOp Go.BinOp.sub 3 (Go.Operand.tmp 129) (Go.Operand.const (Go.Value.int Go.IntKind.i64 1)) 3, type := 3, pos := "free.go:146", after := #[{ on := 32, ground := Go.Ground.data }, { on := 30, ground := Go.Ground.guard }], guard := some (30, true) }) (v := undef) rfl (by kernel_rfl) (by kernel_rfl) (by kernel_rfl) (fun _ _ _ h => h) (Or.inr ⟨by rfl, rfl⟩) (by assumption) ?_
            try simp only [Act.put, List.setIfInBounds_toArray, List.set_cons_zero, List.set_cons_succ]
            refine wpAnyH_take (i := 34) (oi := { dst := some 131, op := Go.Op.indexAddr 61 (Go.Operand.tmp 128) (Go.Operand.tmp 130), type := 0, pos := "free.go:146", after := #[{ on := 31, ground := Go.Ground.data }, { on := 33, ground := Go.Ground.data }, { on := 30, ground := Go.Ground.guard }], guard := some (30, true) }) (v := undef) rfl (by kernel_rfl) (by kernel_rfl) (by kernel_rfl) (fun _ _ _ h => h) (Or.inr ⟨by rfl, rfl⟩) (by assumption) ?_
            try simp only [Act.put, List.setIfInBounds_toArray, List.set_cons_zero, List.set_cons_succ]
            refine wpAnyH_take (i := 35) (oi := { dst := some 132, op := Go.Op.fieldAddr 67 (Go.Operand.tmp 131) 0, type := 0, pos := "free.go:146", after := #[{ on := 34, ground := Go.Ground.data }, { on := 30, ground := Go.Ground.guard }], guard := some (30, true) }) (v := undef) rfl (by kernel_rfl) (by kernel_rfl) (by kernel_rfl) (fun _ _ _ h => h) (Or.inr ⟨by rfl, rfl⟩) (by assumption) ?_
            try simp only [Act.put, List.setIfInBounds_toArray, List.set_cons_zero, List.set_cons_succ]
            refine wpAnyH_take (i := 36) (oi := { dst := some 133, op := Go.Op.load 30 (Go.Operand.tmp 132), type := 30, pos := "free.go:146", after := #[{ on := 35, ground := Go.Ground.data }, { on := 30, ground := Go.Ground.guard }], guard := some (30, true) }) (v := undef) rfl (by kernel_rfl) (by kernel_rfl) (by kernel_rfl) (fun _ _ _ h => h) (Or.inr ⟨by rfl, rfl⟩) (by assumption) ?_
            try simp only [Act.put, List.setIfInBounds_toArray, List.set_cons_zero, List.set_cons_succ]
            refine wpAnyH_take (i := 37) (oi := { dst := some 134, op := Go.Op.move (Go.Operand.tmp 8), type := 61, pos := "free.go:146", after := #[{ on := 30, ground := Go.Ground.guard }], guard := some (30, true) }) (v := undef) rfl (by kernel_rfl) (by kernel_rfl) (by kernel_rfl) (fun _ _ _ h => h) (Or.inr ⟨by rfl, rfl⟩) (by assumption) ?_
            try simp only [Act.put, List.setIfInBounds_toArray, List.set_cons_zero, List.set_cons_succ]
            refine wpAnyH_take (i := 38) (oi := { dst := some 135, op := Go.Op.move (Go.Operand.tmp 10), type := 3, pos := "free.go:146", after := #[{ on := 30, ground := Go.Ground.guard }], guard := some (30, true) }) (v := undef) rfl (by kernel_rfl) (by kernel_rfl) (by kernel_rfl) (fun _ _ _ h => h) (Or.inr ⟨by rfl, rfl⟩) (by assumption) ?_
            try simp only [Act.put, List.setIfInBounds_toArray, List.set_cons_zero, List.set_cons_succ]
            refine wpAnyH_take (i := 39) (oi := { dst := some 136, op := Go.Op.indexAddr 61 (Go.Operand.tmp 134) (Go.Operand.tmp 135), type := 0, pos := "free.go:146", after := #[{ on := 37, ground := Go.Ground.data }, { on := 38, ground := Go.Ground.data }, { on := 30, ground := Go.Ground.guard }], guard := some (30, true) }) (v := undef) rfl (by kernel_rfl) (by kernel_rfl) (by kernel_rfl) (fun _ _ _ h => h) (Or.inr ⟨by rfl, rfl⟩) (by assumption) ?_
            try simp only [Act.put, List.setIfInBounds_toArray, List.set_cons_zero, List.set_cons_succ]
            refine wpAnyH_take (i := 40) (oi := { dst := some 137, op := Go.Op.fieldAddr 67 (Go.Operand.tmp 136) 0, type := 0, pos := "free.go:146", after := #[{ on := 39, ground := Go.Ground.data }, { on := 30, ground := Go.Ground.guard }], guard := some (30, true) }) (v := undef) rfl (by kernel_rfl) (by kernel_rfl) (by kernel_rfl) (fun _ _ _ h => h) (Or.inr ⟨by rfl, rfl⟩) (by assumption) ?_
            try simp only [Act.put, List.setIfInBounds_toArray, List.set_cons_zero, List.set_cons_succ]
            refine wpAnyH_take (i := 41) (oi := { dst := some 138, op := Go.Op.load 30 (Go.Operand.tmp 137), type := 30, pos := "free.go:146", after := #[{ on := 40, ground := Go.Ground.data }, { on := 30, ground := Go.Ground.guard }], guard := some (30, true) }) (v := undef) rfl (by kernel_rfl) (by kernel_rfl) (by kernel_rfl) (fun _ _ _ h => h) (Or.inr ⟨by rfl, rfl⟩) (by assumption) ?_
            try simp only [Act.put, List.setIfInBounds_toArray, List.set_cons_zero, List.set_cons_succ]
            refine wpAnyH_take (i := 42) (oi := { dst := some 139, op := Go.Op.call { callee := Go.Callee.value (Go.Operand.func 15), args := #[Go.Operand.tmp 133, Go.Operand.tmp 138], argTypes := #[30, 30] }, type := 3, pos := "free.go:146", after := #[{ on := 36, ground := Go.Ground.data }, { on := 41, ground := Go.Ground.data }, { on := 30, ground := Go.Ground.chain }, { on := 30, ground := Go.Ground.guard }], guard := some (30, true) }) (v := undef) rfl (by kernel_rfl) (by kernel_rfl) (by kernel_rfl) (fun _ _ _ h => h) (Or.inr ⟨by rfl, rfl⟩) (by assumption) ?_
            try simp only [Act.put, List.setIfInBounds_toArray, List.set_cons_zero, List.set_cons_succ]
            refine wpAnyH_take (i := 43) (oi := { dst := some 140, op := Go.Op.binOp Go.BinOp.geq 3 (Go.Operand.tmp 139) (Go.Operand.const (Go.Value.int Go.IntKind.i64 0)) 3, type := 4, pos := "free.go:146", after := #[{ on := 42, ground := Go.Ground.data }, { on := 30, ground := Go.Ground.guard }], guard := some (30, true) }) (v := undef) rfl (by kernel_rfl) (by kernel_rfl) (by kernel_rfl) (fun _ _ _ h => h) (Or.inr ⟨by rfl, rfl⟩) (by assumption) ?_
            try simp only [Act.put, List.setIfInBounds_toArray, List.set_cons_zero, List.set_cons_succ]
            refine wpAnyH_take (i := 44) (oi := { dst := some 141, op := Go.Op.pick (Go.Operand.tmp 127) (Go.Operand.tmp 140) (Go.Operand.const (Go.Value.bool false)), type := 4, pos := "free.go:146", after := #[{ on := 30, ground := Go.Ground.data }, { on := 43, ground := Go.Ground.data }, { on := 27, ground := Go.Ground.guard }], guard := some (27, false) }) (v := ?_) rfl (by kernel_rfl) (by kernel_rfl) (by kernel_rfl) (fun _ _ _ h => h) (Or.inl ⟨by rfl, ?_⟩) (by assumption) ?_
            rotate_left
            · intro wq hSw; (try dsimp only at hSw); go_simp; (try with_reducible rfl)
            try simp only [Act.put, List.setIfInBounds_toArray, List.set_cons_zero, List.set_cons_succ]
            refine wpAnyH_take (i := 45) (oi := { dst := some 142, op := Go.Op.pick (Go.Operand.tmp 124) (Go.Operand.const (Go.Value.bool true)) (Go.Operand.tmp 141), type := 4, pos := "free.go:146", after := #[{ on := 27, ground := Go.Ground.data }, { on := 44, ground := Go.Ground.data }], guard := none }) (v := ?_) rfl (by kernel_rfl) (by kernel_rfl) (by kernel_rfl) (fun _ _ _ h => h) (Or.inl ⟨by rfl, ?_⟩) (by assumption) ?_
            rotate_left
            · intro wq hSw; (try dsimp only at hSw); go_simp; (try with_reducible rfl)
            try simp only [Act.put, List.setIfInBounds_toArray, List.set_cons_zero, List.set_cons_succ]
            refine wpAnyH_done (by kernel_rfl) ?_ _
            go_wp2_with fail
            go_roundw
            case rel => exact ⟨1, by go_num, by omega, by (repeat' (first | with_reducible exact Below.refl _ _ | with_reducible assumption | with_reducible refine Below.drew ?_ | with_reducible refine below_drewN ?_ _ | with_reducible refine Below.setCell ?_ ?_ _ | with_reducible refine Below.alloc ?_ ?_ _ | omega | (simp; done) | (simp; omega)))⟩
            case measure => simp [intOf]; omega
          · obtain ⟨j, hj⟩ : ∃ j : Nat, j = k - 1 := ⟨_, rfl⟩
            have j1 : j + 1 ≤ k := by omega
            have j2 : k ≤ j + 1 := by omega
            clear hj
            obtain ⟨⟨fj, rj⟩, hxj⟩ : ∃ x, s[j]? = some x := ⟨s[j]'(by omega), List.getElem?_eq_getElem _⟩
            obtain ⟨xa, hxa⟩ : ∃ y, a[j]? = some y := ⟨a[j]'(by omega), List.getElem?_eq_getElem _⟩
            obtain ⟨_, hfj⟩ := HAT.out j _ hxj
            have hfj : fj = ((lastT a j : Int) : Rat) := hfj
            have gj : Good fj := (HG.out _ (List.mem_of_getElem? hxj)).1
            have hta : t = xa := by rw [HT.out, show k = j + 1 by omega]; exact lastT_succ hxa
            have hlt2 : lastT a j < t := by rw [HT.out, show k = j + 1 by omega]; exact HRI.out j (by omega)
            obtain ⟨tj, htj⟩ : ∃ t, t = lastT a j := ⟨_, rfl⟩
            rw [← htj] at hfj hlt2
            subst hfj
            subst hta
            obtain ⟨bS2, offS2, hbe, _, hcJ⟩ := HS.out j _ hxj
            injection hbe with hbe
            injection hbe with e1 e2
            subst e1 e2
            have J0 : Hid (w6.cell? ⟨bS, offS + j * 4, none⟩ = some (.int .i64 tj)) := by have h := hcJ 0 _ rfl; rw [Rat.num_intCast] at h; exact h
            have J1 : Hid (w6.cell? ⟨bS, offS + j * 4 + 1, none⟩ = some (.int .i64 1)) := by have h := hcJ 1 _ rfl; rw [Rat.den_intCast] at h; exact h
            obtain ⟨bA, offA, rfl, hbA, hcA⟩ := HA4.out j _ hxa
            have AJ : Hid (w6.cell? ⟨bA, offA + j, none⟩ = some (.int .i64 t)) := by have h := hcA 0 _ rfl; rw [Nat.mul_one, Nat.add_zero] at h; exact h
            have HGJ := Lib.hid gj
            have HLT := Lib.hid hlt2
            clear hxj hxa gj hlt2 htj hcJ hcA
            have i1 : IntKind.i64.wrap ((k : Int) - 1) = (j : Int) := by rw [show (k : Int) - 1 = j by omega]; exact IntWalk.i64_in _ (by omega)
            have i2 : IntKind.i64.wrap ((j : Int)) = (j : Int) := IntWalk.i64_in _ (by omega)
            have i3 : (k : Int) - 1 = (j : Int) := by omega
            have i4 : j < a.length := by omega
            have i5 : j < s.length := by omega
            go_wp2_with fail
            refine (make_any y den E _ (by omega) (by omega) (by omega) (by omega) ((HE4.out.below (by (repeat' (first | with_reducible exact Below.refl _ _ | with_reducible assumption | with_reducible refine Below.drew ?_ | with_reducible refine below_drewN ?_ _ | with_reducible refine Below.setCell ?_ ?_ _ | with_reducible refine Below.alloc ?_ ?_ _ | omega | (simp; done) | (simp; omega))))).sub (by decide))).mono ?_
            rintro e w48 ⟨⟨n', d', err, rfl, hr⟩, hb48⟩
            have hw48 : Below w6.heap.size w6 w48 := stepH (by (repeat' (first | with_reducible exact Below.refl _ _ | with_reducible assumption | with_reducible refine Below.drew ?_ | with_reducible refine below_drewN ?_ _ | with_reducible refine Below.setCell ?_ ?_ _ | with_reducible refine Below.alloc ?_ ?_ _ | omega | (simp; done) | (simp; omega)))) hb48
            rw [HMK.out] at hr
            obtain ⟨rfl, rfl, rfl⟩ := hr
            have z48 := hw48.size
            clear hb48 hw0 z0
            clear yc
            have s0c : w48.cell? ⟨bS, offS + k * 4, none⟩ = some (.int .i64 t) := (hw48.cell (p := ⟨bS, _, none⟩) hbS).trans S0.out
            have s1c : w48.cell? ⟨bS, offS + k * 4 + 1, none⟩ = some (.int .i64 1) := (hw48.cell (p := ⟨bS, _, none⟩) hbS).trans S1.out
            have s2c : w48.cell? ⟨bS, offS + k * 4 + 2, none⟩ = some (.int .i64 r.num) := (hw48.cell (p := ⟨bS, _, none⟩) hbS).trans S2.out
            have s3c : w48.cell? ⟨bS, offS + k * 4 + 2 + 1, none⟩ = some (.int .i64 r.den) := (hw48.cell (p := ⟨bS, _, none⟩) hbS).trans S3.out
            have neS : bS < w48.heap.size := by have := hw48.size; omega
            have neA : bA < w48.heap.size := by have := hw48.size; omega
            have ac : w48.cell? ⟨bA, offA + j, none⟩ = some (.int .i64 t) := (hw48.cell (p := ⟨bA, _, none⟩) hbA).trans AJ.out
            go_wp2_with fail
            refine (valid_is _ HVT.out (by omega) (by omega) (by omega) (by omega)).mono ?_
            rintro e w49 ⟨rfl, hb49⟩
            have hw49 : Below w6.heap.size w6 w49 := stepH (by (repeat' (first | with_reducible exact Below.refl _ _ | with_reducible assumption | with_reducible refine Below.drew ?_ | with_reducible refine below_drewN ?_ _ | with_reducible refine Below.setCell ?_ ?_ _ | with_reducible refine Below.alloc ?_ ?_ _ | omega | (simp; done) | (simp; omega)))) hb49
            have X := keepH hb49 (g := w48.heap.size) (blk_new rfl)
            have z49 := hw49.size
            clear hb49 hw48 z48
            have cX := cellH X
            obtain ⟨lX, lX1, lX2⟩ := ltH X
            clear neS s0c s1c s2c s3c ac neA
            have s0c : w49.cell? ⟨bS, offS + k * 4, none⟩ = some (.int .i64 t) := (hw49.cell (p := ⟨bS, _, none⟩) hbS).trans S0.out
            have s1c : w49.cell? ⟨bS, offS + k * 4 + 1, none⟩ = some (.int .i64 1) := (hw49.cell (p := ⟨bS, _, none⟩) hbS).trans S1.out
            have s2c : w49.cell? ⟨bS, offS + k * 4 + 2, none⟩ = some (.int .i64 r.num) := (hw49.cell (p := ⟨bS, _, none⟩) hbS).trans S2.out
            have s3c : w49.cell? ⟨bS, offS + k * 4 + 2 + 1, none⟩ = some (.int .i64 r.den) := (hw49.cell (p := ⟨bS, _, none⟩) hbS).trans S3.out
            go_wp2_with fail
            refine (valid_is _ HVR.out (by omega) (by omega) (by omega) (by omega)).mono ?_
            rintro e w50 ⟨rfl, hb50⟩
            have hw50 : Below w6.heap.size w6 w50 := stepH (by (repeat' (first | with_reducible exact Below.refl _ _ | with_reducible assumption | with_reducible refine Below.drew ?_ | with_reducible refine below_drewN ?_ _ | with_reducible refine Below.setCell ?_ ?_ _ | with_reducible refine Below.alloc ?_ ?_ _ | omega | (simp; done) | (simp; omega)))) hb50
            replace X := keepH hb50 X.out
            have z50 := hw50.size
            clear hb50 hw49 z49
            clear cX lX lX1 lX2
            have cX := cellH X
            obtain ⟨lX, lX1, lX2⟩ := ltH X
            clear s0c s1c s2c s3c
            have s0c : w50.cell? ⟨bS, offS + k * 4, none⟩ = some (.int .i64 t) := (hw50.cell (p := ⟨bS, _, none⟩) hbS).trans S0.out
            have s1c : w50.cell? ⟨bS, offS + k * 4 + 1, none⟩ = some (.int .i64 1) := (hw50.cell (p := ⟨bS, _, none⟩) hbS).trans S1.out
            have s2c : w50.cell? ⟨bS, offS + k * 4 + 2, none⟩ = some (.int .i64 r.num) := (hw50.cell (p := ⟨bS, _, none⟩) hbS).trans S2.out
            have s3c : w50.cell? ⟨bS, offS + k * 4 + 2 + 1, none⟩ = some (.int .i64 r.den) := (hw50.cell (p := ⟨bS, _, none⟩) hbS).trans S3.out
            have j0c : w50.cell? ⟨bS, offS + j * 4, none⟩ = some (.int .i64 tj) := (hw50.cell (p := ⟨bS, _, none⟩) hbS).trans J0.out
            have j1c : w50.cell? ⟨bS, offS + j * 4 + 1, none⟩ = some (.int .i64 1) := (hw50.cell (p := ⟨bS, _, none⟩) hbS).trans J1.out
            have x0c : w50.cell? ⟨w48.heap.size, 0, none⟩ = some (.int .i64 r.num) := cellH X 0
            have x1c : w50.cell? ⟨w48.heap.size, 1, none⟩ = some (.int .i64 r.den) := cellH X 1
            go_wp2_with fail
            have hw51 := hw50
            go_region_held3 (fun w' => w'.cell? ⟨w48.heap.size, 0, none⟩ = some (.int .i64 r.num) ∧ w'.cell? ⟨w48.heap.size, 1, none⟩ = some (.int .i64 r.den) ∧ w'.cell? ⟨bS, offS + k * 4, none⟩ = some (.int .i64 t) ∧ w'.cell? ⟨bS, offS + k * 4 + 1, none⟩ = some (.int .i64 1) ∧ w'.cell? ⟨bS, offS + k * 4 + 2, none⟩ = some (.int .i64 r.num) ∧ w'.cell? ⟨bS, offS + k * 4 + 2 + 1, none⟩ = some (.int .i64 r.den) ∧ w'.cell? ⟨bS, offS + j * 4, none⟩ = some (.int .i64 tj) ∧ w'.cell? ⟨bS, offS + j * 4 + 1, none⟩ = some (.int .i64 1)) (first | with_reducible exact ⟨x0c, x1c, s0c, s1c, s2c, s3c, j0c, j1c⟩ | go_keep)
              (first | (go_at_call 17; refine (first_same _ _ _).mono ?_; rintro e w51 ⟨rfl, hb51⟩; have hw51 : Below w6.heap.size w6 w51 := stepH (by (repeat' (first | with_reducible exact Below.refl _ _ | with_reducible assumption | with_reducible refine Below.drew ?_ | with_reducible refine below_drewN ?_ _ | with_reducible refine Below.setCell ?_ ?_ _ | with_reducible refine Below.alloc ?_ ?_ _ | omega | (simp; done) | (simp; omega)))) hb51; replace X := keepH hb51 X.out; have x0c : w51.cell? ⟨w48.heap.size, 0, none⟩ = some (.int .i64 r.num) := cellH X 0; have x1c : w51.cell? ⟨w48.heap.size, 1, none⟩ = some (.int .i64 r.den) := cellH X 1; have s0c : w51.cell? ⟨bS, offS + k * 4, none⟩ = some (.int .i64 t) := (hw51.cell (p := ⟨bS, _, none⟩) hbS).trans S0.out; have s1c : w51.cell? ⟨bS, offS + k * 4 + 1, none⟩ = some (.int .i64 1) := (hw51.cell (p := ⟨bS, _, none⟩) hbS).trans S1.out; have s2c : w51.cell? ⟨bS, offS + k * 4 + 2, none⟩ = some (.int .i64 r.num) := (hw51.cell (p := ⟨bS, _, none⟩) hbS).trans S2.out; have s3c : w51.cell? ⟨bS, offS + k * 4 + 2 + 1, none⟩ = some (.int .i64 r.den) := (hw51.cell (p := ⟨bS, _, none⟩) hbS).trans S3.out; have j0c : w51.cell? ⟨bS, offS + j * 4, none⟩ = some (.int .i64 tj) := (hw51.cell (p := ⟨bS, _, none⟩) hbS).trans J0.out; have j1c : w51.cell? ⟨bS, offS + j * 4 + 1, none⟩ = some (.int .i64 1) := (hw51.cell (p := ⟨bS, _, none⟩) hbS).trans J1.out) | (go_at_call 28; refine (fr16_any _ _ _).mono ?_; rintro e w51 ⟨rfl, hb51⟩; have hw51 : Below w6.heap.size w6 w51 := stepH (by (repeat' (first | with_reducible exact Below.refl _ _ | with_reducible assumption | with_reducible refine Below.drew ?_ | with_reducible refine below_drewN ?_ _ | with_reducible refine Below.setCell ?_ ?_ _ | with_reducible refine Below.alloc ?_ ?_ _ | omega | (simp; done) | (simp; omega)))) hb51; replace X := keepH hb51 X.out; have x0c : w51.cell? ⟨w48.heap.size, 0, none⟩ = some (.int .i64 r.num) := cellH X 0; have x1c : w51.cell? ⟨w48.heap.size, 1, none⟩ = some (.int .i64 r.den) := cellH X 1; have s0c : w51.cell? ⟨bS, offS + k * 4, none⟩ = some (.int .i64 t) := (hw51.cell (p := ⟨bS, _, none⟩) hbS).trans S0.out; have s1c : w51.cell? ⟨bS, offS + k * 4 + 1, none⟩ = some (.int .i64 1) := (hw51.cell (p := ⟨bS, _, none⟩) hbS).trans S1.out; have s2c : w51.cell? ⟨bS, offS + k * 4 + 2, none⟩ = some (.int .i64 r.num) := (hw51.cell (p := ⟨bS, _, none⟩) hbS).trans S2.out; have s3c : w51.cell? ⟨bS, offS + k * 4 + 2 + 1, none⟩ = some (.int .i64 r.den) := (hw51.cell (p := ⟨bS, _, none⟩) hbS).trans S3.out; have j0c : w51.cell? ⟨bS, offS + j * 4, none⟩ = some (.int .i64 tj) := (hw51.cell (p := ⟨bS, _, none⟩) hbS).trans J0.out; have j1c : w51.cell? ⟨bS, offS + j * 4 + 1, none⟩ = some (.int .i64 1) := (hw51.cell (p := ⟨bS, _, none⟩) hbS).trans J1.out) | (go_at_call 15; refine (cmp_ints tj t _ HGJ.out HGF.out HLT.out).mono ?_; rintro e w51 ⟨rfl, hb51⟩; have hw51 : Below w6.heap.size w6 w51 := stepH (by (repeat' (first | with_reducible exact Below.refl _ _ | with_reducible assumption | with_reducible refine Below.drew ?_ | with_reducible refine below_drewN ?_ _ | with_reducible refine Below.setCell ?_ ?_ _ | with_reducible refine Below.alloc ?_ ?_ _ | omega | (simp; done) | (simp; omega)))) hb51; replace X := keepH hb51 X.out; have x0c : w51.cell? ⟨w48.heap.size, 0, none⟩ = some (.int .i64 r.num) := cellH X 0; have x1c : w51.cell? ⟨w48.heap.size, 1, none⟩ = some (.int .i64 r.den) := cellH X 1; have s0c : w51.cell? ⟨bS, offS + k * 4, none⟩ = some (.int .i64 t) := (hw51.cell (p := ⟨bS, _, none⟩) hbS).trans S0.out; have s1c : w51.cell? ⟨bS, offS + k * 4 + 1, none⟩ = some (.int .i64 1) := (hw51.cell (p := ⟨bS, _, none⟩) hbS).trans S1.out; have s2c : w51.cell? ⟨bS, offS + k * 4 + 2, none⟩ = some (.int .i64 r.num) := (hw51.cell (p := ⟨bS, _, none⟩) hbS).trans S2.out; have s3c : w51.cell? ⟨bS, offS + k * 4 + 2 + 1, none⟩ = some (.int .i64 r.den) := (hw51.cell (p := ⟨bS, _, none⟩) hbS).trans S3.out; have j0c : w51.cell? ⟨bS, offS + j * 4, none⟩ = some (.int .i64 tj) := (hw51.cell (p := ⟨bS, _, none⟩) hbS).trans J0.out; have j1c : w51.cell? ⟨bS, offS + j * 4 + 1, none⟩ = some (.int .i64 1) := (hw51.cell (p := ⟨bS, _, none⟩) hbS).trans J1.out))
            all_goals go_wp2_with fail
            all_goals go_roundw
            case rel => exact ⟨k + 1, by go_num, by omega, by (repeat' (first | with_reducible exact Below.refl _ _ | with_reducible assumption | with_reducible refine Below.drew ?_ | with_reducible refine below_drewN ?_ _ | with_reducible refine Below.setCell ?_ ?_ _ | with_reducible refine Below.alloc ?_ ?_ _ | omega | (simp; done) | (simp; omega)))⟩
            case measure => simp [intOf]; omega
        · obtain rfl : k = s.length := by omega
          go_wp2_with fail
          refine (ints_any a _ A c _ rfl ((HA4.out.below (by (repeat' (first | with_reducible exact Below.refl _ _ | with_reducible assumption | with_reducible refine Below.drew ?_ | with_reducible refine below_drewN ?_ _ | with_reducible refine Below.setCell ?_ ?_ _ | with_reducible refine Below.alloc ?_ ?_ _ | omega | (simp; done) | (simp; omega)))) (Nat.le_refl _)).more (by first | omega | (simp; omega))) (by omega)).mono ?_
          rintro e w52 ⟨v3, rfl, own3, hb52⟩
          have hw52 : Below w6.heap.size w6 w52 := stepH (by (repeat' (first | with_reducible exact Below.refl _ _ | with_reducible assumption | with_reducible refine Below.drew ?_ | with_reducible refine below_drewN ?_ _ | with_reducible refine Below.setCell ?_ ?_ _ | with_reducible refine Below.alloc ?_ ?_ _ | omega | (simp; done) | (simp; omega)))) hb52
          obtain ⟨A3, c3, hv3, _, _, hr3⟩ := Own.rows (enc := encI) (size := 1) (fun _ _ => rfl) own3
          subst hv3
          have R3 := Lib.hid hr3
          clear own3 hr3
          have z52 := hw52.size
          clear hb52 hw0 z0
          go_wp2_with fail
          refine (ints_any b _ B d _ rfl ((HB4.out.below (by (repeat' (first | with_reducible exact Below.refl _ _ | with_reducible assumption | with_reducible refine Below.drew ?_ | with_reducible refine below_drewN ?_ _ | with_reducible refine Below.setCell ?_ ?_ _ | with_reducible refine Below.alloc ?_ ?_ _ | omega | (simp; done) | (simp; omega)))) (Nat.le_refl _)).more (by first | omega | (simp; omega))) (by omega)).mono ?_
          rintro e w53 ⟨v4, rfl, own4, hb53⟩
          replace R3 : Hid (RowAt encI 1 _ _ A3 a) := Lib.hid ((R3.out.below hb53 (Nat.le_refl _)).more hb53.size)
          have hw53 : Below w6.heap.size w6 w53 := stepH (by (repeat' (first | with_reducible exact Below.refl _ _ | with_reducible assumption | with_reducible refine Below.drew ?_ | with_reducible refine below_drewN ?_ _ | with_reducible refine Below.setCell ?_ ?_ _ | with_reducible refine Below.alloc ?_ ?_ _ | omega | (simp; done) | (simp; omega)))) hb53
          obtain ⟨A4, c4, hv4, _, _, hr4⟩ := Own.rows (enc := encI) (size := 1) (fun _ _ => rfl) own4
          subst hv4
          have R4 := Lib.hid hr4
          clear own4 hr4
          have z53 := hw53.size
          clear hb53 hw52 z52
          go_wp2_with fail
          refine (greater_any a b A3 A4 c3 c4 E _ (by omega) R3.out R4.out HI.out HJ.out (HM.out.below (stepH HWD.out hw53))).mono ?_
          rintro e w54 ⟨hret, hb54⟩
          have hw54 : Below w6.heap.size w6 w54 := stepH (by (repeat' (first | with_reducible exact Below.refl _ _ | with_reducible assumption | with_reducible refine Below.drew ?_ | with_reducible refine below_drewN ?_ _ | with_reducible refine Below.setCell ?_ ?_ _ | with_reducible refine Below.alloc ?_ ?_ _ | omega | (simp; done) | (simp; omega)))) hb54
          clear R3 R4
          have z54 := hw54.size
          clear hb54 hw53 z53
          by_cases hl : a.length = b.length
          · rw [if_pos hl] at hret
            obtain ⟨v, rfl, own⟩ := hret
            obtain ⟨AG, cG, hv, _, _, hrG⟩ := Own.rows (enc := encI) (size := 1) (fun _ _ => rfl) own
            subst hv
            have hlg : (greaterL a b).length = a.length := by unfold greaterL; rw [List.length_zipWith, ← hl, Nat.min_self]
            have HG9 := Lib.hid hrG
            have e1 : ((a.length : Int) == (b.length : Int)) = true := by simp [hl]
            have g1 : (greaterL a b).length ≤ a.length := by omega
            have g2 : a.length ≤ (greaterL a b).length := by omega
            have g3 : (greaterL a b).length ≤ b.length := by omega
            have e2 : (((greaterL a b).length : Int) == (a.length : Int)) = true := by simp [hlg]
            clear hl hlg own hrG
            generalize hgl : greaterL a b = l at *
            have HGL := Lib.hid hgl
            clear hgl
            have HA5 := Lib.hid ((HA4.out.below hw54 (Nat.le_refl _)).more hw54.size)
            have HB5 := Lib.hid ((HB4.out.below hw54 (Nat.le_refl _)).more hw54.size)
            go_wp2_with fail
            go_loopw [17] (fun i wr => ∃ k : Nat, i = .int .i64 k ∧ k ≤ l.length ∧ Below w54.heap.size w54 wr) (fun i _ => l.length - (intOf i).toNat)
            case atStart => exact ⟨0, rfl, Nat.zero_le _, Below.refl _ _⟩
            case round =>
              obtain ⟨k2, rfl, hk2, hw9⟩ := hrel
              have z9 := hw9.size
              by_cases hlt2 : k2 < l.length
              · obtain ⟨v, hv⟩ : ∃ y, l[k2]? = some y := ⟨l[k2], List.getElem?_eq_getElem hlt2⟩
                obtain ⟨x, y, hx, hy, hmx⟩ := greater_at (by rw [HGL.out]; exact hv)
                obtain ⟨bG, oG, rfl, hbG, hcG⟩ := HG9.out k2 _ hv
                obtain ⟨bA, oA, rfl, hbA, hcA⟩ := HA5.out k2 _ hx
                obtain ⟨bB, oB, rfl, hbB, hcB⟩ := HB5.out k2 _ hy
                have cg : wr.cell? ⟨bG, oG + k2, none⟩ = some (.int .i64 v) := (hw9.cell (p := ⟨bG, _, none⟩) hbG).trans (by have h := hcG 0 _ rfl; rw [Nat.mul_one, Nat.add_zero] at h; exact h)
                have ca : wr.cell? ⟨bA, oA + k2, none⟩ = some (.int .i64 x) := (hw9.cell (p := ⟨bA, _, none⟩) hbA).trans (by have h := hcA 0 _ rfl; rw [Nat.mul_one, Nat.add_zero] at h; exact h)
                have cb : wr.cell? ⟨bB, oB + k2, none⟩ = some (.int .i64 y) := (hw9.cell (p := ⟨bB, _, none⟩) hbB).trans (by have h := hcB 0 _ rfl; rw [Nat.mul_one, Nat.add_zero] at h; exact h)
                have s0 : (0 : Int) ≤ (k2 : Int) := by omega
                have s1 : k2 < a.length := by omega
                have s2 : k2 < b.length := by omega
                clear hx hy hv hcG hcA hcB e1 e2
                have two : y ≤ x ∨ x < y := by omega
                rcases two with h | h
                · obtain rfl : v = x := by omega
                  have q1 : decide (v < v) = false := decide_eq_false (by omega)
                  have q2 : decide (v < y) = false := decide_eq_false (by omega)
                  have q3 : (v != v) = false := by simp
                  clear hmx
                  go_wp2_with fail
                  go_quiet (fail)
                  go_wp2_with fail
                  go_roundw
                  case rel => exact ⟨k2 + 1, by go_num, by omega, by (repeat' (first | with_reducible exact Below.refl _ _ | with_reducible assumption | with_reducible refine Below.drew ?_ | with_reducible refine below_drewN ?_ _ | with_reducible refine Below.setCell ?_ ?_ _ | with_reducible refine Below.alloc ?_ ?_ _ | omega | (simp; done) | (simp; omega)))⟩
                  case measure => simp [intOf]; omega
                · obtain rfl : v = y := by omega
                  have q1 : decide (v < v) = false := decide_eq_false (by omega)
                  have q2 : decide (v < x) = false := decide_eq_false (by omega)
                  have q3 : (v != v) = false := by simp
                  have q4 : (v != x) = true := by rw [bne_iff_ne]; omega
                  clear hmx
                  go_wp2_with fail
                  go_quiet (fail)
                  go_wp2_with fail
                  go_roundw
                  case rel => exact ⟨k2 + 1, by go_num, by omega, by (repeat' (first | with_reducible exact Below.refl _ _ | with_reducible assumption | with_reducible refine Below.drew ?_ | with_reducible refine below_drewN ?_ _ | with_reducible refine Below.setCell ?_ ?_ _ | with_reducible refine Below.alloc ?_ ?_ _ | omega | (simp; done) | (simp; omega)))⟩
                  case measure => simp [intOf]; omega
              · obtain rfl : k2 = l.length := by omega
                go_wp2_with fail
                go_ret
                exact ⟨rfl, stepH HWD.out (stepH hw54 hw9)⟩
          · rw [if_neg hl] at hret
            have hret : e = _ := hret
            subst hret
            have e1 : ((a.length : Int) == (b.length : Int)) = false := by rw [beq_eq_false_iff_ne]; omega
            clear hl
            have hc' := (HM.out.below (stepH HWD.out hw54)).cell 0 (by decide)
            have hen := fun w => eql_nil (E 0) w
            have hne := fun w => neq_err (E 0) w
            go_wp2_with fail
            go_loopw [17] (fun i wr => i = .int .i64 0 ∧ Below w6.heap.size w6 wr) (fun i _ => 0)
            case atStart => exact ⟨rfl, by (repeat' (first | with_reducible exact Below.refl _ _ | with_reducible assumption | with_reducible refine Below.drew ?_ | with_reducible refine below_drewN ?_ _ | with_reducible refine Below.setCell ?_ ?_ _ | with_reducible refine Below.alloc ?_ ?_ _ | omega | (simp; done) | (simp; omega)))⟩
            case round =>
              obtain ⟨rfl, hw9⟩ := hrel
              go_wp2_with fail
              go_ret
              exact ⟨rfl, stepH HWD.out hw9⟩

end Go.Proofs.YtcbglkkmblmbnaaDoor
