/- Plain law: sums of fractions. -/
import Derived.Test.YtmankldedhgdiaaDoorSums
import Derived.Deep.RegionHeld3
namespace Go.Proofs.YtmankldedhgdiaaDoor
open Go.RowKit


def sumL : List Rat → Rat
  | [] => 0
  | q :: r => q + sumL r

theorem sumL_append (a b : List Rat) : sumL (a ++ b) = sumL a + sumL b := by
  induction a with
  | nil => show sumL b = 0 + sumL b; rw [Rat.zero_add]
  | cons q r ih => show q + sumL (r ++ b) = q + sumL r + sumL b; rw [ih, Rat.add_assoc]

theorem sumL_reverse (a : List Rat) : sumL a.reverse = sumL a := by
  induction a with
  | nil => rfl
  | cons q r ih =>
    rw [List.reverse_cons, sumL_append, ih]
    show sumL r + (q + 0) = q + sumL r
    rw [Rat.add_zero, Rat.add_comm]

theorem sumL_cut (a : List Rat) (k : Nat) : sumL (a.take k) + sumL (a.drop k) = sumL a := by rw [← sumL_append, List.take_append_drop]

theorem foldR_sum {l : List Rat} {a x : Rat} (h : foldR a l = .ok x) : x = a + sumL l := by
  induction l generalizing a with
  | nil => cases h; exact (Rat.add_zero x).symm
  | cons q r ih =>
    unfold foldR at h
    split at h
    · rw [ih h]; show a + q + sumL r = a + (q + sumL r); rw [Rat.add_assoc]
    · cases h

theorem foldR_good {l : List Rat} {a x : Rat} (ha : Good a) (h : foldR a l = .ok x) : Good x := by
  induction l generalizing a with
  | nil => cases h; exact ha
  | cons q r ih =>
    unfold foldR at h
    split at h
    · rename_i hg; exact ih hg h
    · cases h

theorem foldR_take {l : List Rat} {a x : Rat} (h : foldR a l = .ok x) (k : Nat) : ∃ y, foldR a (l.take k) = .ok y := by
  induction l generalizing a k with
  | nil => exact ⟨a, by simp [foldR]⟩
  | cons q r ih =>
    unfold foldR at h
    split at h
    · rename_i hg
      cases k with
      | zero => exact ⟨a, rfl⟩
      | succ k =>
        obtain ⟨y, hy⟩ := ih h k
        exact ⟨y, by rw [List.take_succ_cons]; unfold foldR; rw [if_pos hg]; exact hy⟩
    · cases h

theorem foldR_err {l : List Rat} {a : Rat} {g : Nat} (h : foldR a l = .error g) : g = 5 := by
  induction l generalizing a with
  | nil => cases h
  | cons q r ih =>
    unfold foldR at h
    split at h
    · exact ih h
    · cases h; rfl

def upB (l : List (Int × Int)) : Bool := l.all fun x => decide (0 ≤ x.1)

theorem upB_snoc (l : List (Int × Int)) (x : Int × Int) : upB (l ++ [x]) = (upB l && decide (0 ≤ x.1)) := by unfold upB; rw [List.all_append]; simp

theorem sumL_up {qs : List Rat} (h : upB (qs.map fq) = true) : 0 ≤ sumL qs := by
  induction qs with
  | nil => exact Rat.le_refl
  | cons q r ih =>
    rw [List.map_cons] at h
    unfold upB at h
    rw [List.all_cons, Bool.and_eq_true] at h
    have h1 : 0 ≤ q := Rat.num_nonneg.1 (by simpa [fq] using h.1)
    have h2 := ih (by unfold upB; exact h.2)
    show 0 ≤ q + sumL r
    have := Rat.add_nonneg h1 h2
    exact this

theorem cmp_zero (x : Rat) (hx : Good x) (h0 : 0 ≤ x) (w : World) : Calls Tryd.prog 43 #[.agg #[.int .i64 x.num, .int .i64 x.den], .agg #[.int .i64 0, .int .i64 1]] w fun e w' => ∃ c : Int, e = .returned (.int .i64 c) ∧ 0 ≤ c ∧ Below w.heap.size w w' := by
  have h := cmp_any x 0 w hx good_zero
  refine h.mono ?_
  rintro e w' ⟨rfl, hb⟩
  refine ⟨_, rfl, ?_, hb⟩
  unfold cmpQ
  rw [if_neg (by rw [Rat.not_lt]; exact h0)]
  split <;> omega

theorem cutIdx (a : Int) (n : Nat) (hn : 0 < n) : ∃ K : Nat, K < n ∧ (a.tmod n + n) % n = K ∧ -(n : Int) < a.tmod n ∧ a.tmod n < n := by
  have b1 : a.tmod n < n := Int.tmod_lt_of_pos a (by omega)
  have b2 : -(n : Int) < a.tmod n := by
    rcases Int.lt_or_le a 0 with h | h
    · have := Int.tmod_lt_of_pos (-a) (show (0 : Int) < n by omega)
      rw [Int.neg_tmod] at this; omega
    · have := Int.tmod_nonneg (n : Int) h; omega
  refine ⟨((a.tmod n + n) % n).toNat, ?_, ?_, b2, b1⟩
  · have c1 := Int.emod_lt_of_pos (a.tmod n + n) (show (0 : Int) < n by omega)
    have c2 := Int.emod_nonneg (a.tmod n + n) (show (n : Int) ≠ 0 by omega)
    omega
  · have c2 := Int.emod_nonneg (a.tmod n + n) (show (n : Int) ≠ 0 by omega)
    omega


theorem sumI_take {l : List (Int × Int)} {qs : List Rat} (h : l = qs.map fq) (hq : ∀ q ∈ qs, Good q) (k : Nat) : sumI (l.take k) = foldR 0 (qs.take k) := by
  rw [h, ← List.map_take]; exact sumI_fq fun q hm => hq q (List.mem_of_mem_take hm)

theorem sumI_drop {l : List (Int × Int)} {qs : List Rat} (h : l = qs.map fq) (hq : ∀ q ∈ qs, Good q) (k : Nat) : sumI (l.drop k) = foldR 0 (qs.drop k) := by
  rw [h, ← List.map_drop]; exact sumI_fq fun q hm => hq q (List.mem_of_mem_drop hm)

theorem sumI_rev {l : List (Int × Int)} {qs : List Rat} (h : l = qs.map fq) (hq : ∀ q ∈ qs, Good q) : sumI l.reverse = foldR 0 qs.reverse := by
  rw [h, ← List.map_reverse]; exact sumI_fq fun q hm => hq q (List.mem_reverse.1 hm)

theorem own_rev {l : List (Int × Int)} {e : TypeId} {base : Nat} {w : World} {v : Value} (h : w.ownsRow base e 2 v l.length ((l.reverse.take l.length).flatMap encF)) :
    ∃ A c, v = .slice A l.length c ∧ l.length ≤ c ∧ c ≤ maxLen ∧ RowAt encF 2 w w.heap.size A l.reverse := by
  have hn : l.length = l.reverse.length := (List.length_reverse ..).symm
  rw [show l.reverse.take l.length = l.reverse by rw [List.take_of_length_le (by omega)]] at h
  have ho : Own encF 2 e base w v l.reverse := by unfold Own; rw [← hn]; exact h
  obtain ⟨A2, c2, h1, h2, h3, h4⟩ := Own.rows (enc := encF) (size := 2) (fun _ _ => rfl) ho
  rw [← hn] at h1 h2
  exact ⟨A2, c2, h1, h2, h3, h4⟩

theorem cmpz {c : Int} (h : 0 ≤ c) : decide (0 ≤ c) = true := decide_eq_true h

end Go.Proofs.YtmankldedhgdiaaDoor
