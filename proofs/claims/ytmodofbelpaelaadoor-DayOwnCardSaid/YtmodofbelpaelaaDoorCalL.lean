/- The calendar: the plain law. No program in sight. -/
namespace Go.Proofs.YtmodofbelpaelaaDoor

def monthsL : List Int := [31, 28, 31, 30, 31, 30, 31, 31, 30, 31, 30, 31]
def leapB (y : Int) : Bool := y % 4 == 0 && (y % 100 != 0 || y % 400 == 0)
/-- the days of the month k + 1 -/
def lenK (y : Int) (k : Nat) : Int := if k = 1 ∧ leapB y = true then 29 else monthsL.getD k 0
/-- the days ahead of a year -/
def aheadL (y : Int) : Int := 365 * (y - 1) + (y - 1) / 4 - (y - 1) / 100 + (y - 1) / 400
/-- the days ahead of the month k + 1 in its year -/
def cumL (y : Int) : Nat → Int
  | 0 => 0
  | k + 1 => cumL y k + lenK y k

theorem leapB_iff (y : Int) : leapB y = true ↔ (y % 4 = 0 ∧ (y % 100 ≠ 0 ∨ y % 400 = 0)) := by
  simp [leapB]
theorem lenK_pos (y : Int) {k : Nat} (h : k < 12) : 28 ≤ lenK y k ∧ lenK y k ≤ 31 := by
  unfold lenK
  split
  · omega
  · match k, h with
    | 0, _ => decide
    | 1, _ => decide
    | 2, _ => decide
    | 3, _ => decide
    | 4, _ => decide
    | 5, _ => decide
    | 6, _ => decide
    | 7, _ => decide
    | 8, _ => decide
    | 9, _ => decide
    | 10, _ => decide
    | 11, _ => decide
theorem cumL_12 (y : Int) : cumL y 12 = if leapB y = true then 366 else 365 := by
  simp only [cumL, lenK, monthsL]
  by_cases h : leapB y = true
  · simp [h]
  · simp [h]
theorem aheadL_succ (y : Int) : aheadL (y + 1) = aheadL y + cumL y 12 := by
  rw [cumL_12]
  unfold aheadL
  by_cases h : leapB y = true
  · have := (leapB_iff y).1 h
    rw [if_pos h]
    omega
  · have h' : ¬ (y % 4 = 0 ∧ (y % 100 ≠ 0 ∨ y % 400 = 0)) := fun hh => h ((leapB_iff y).2 hh)
    rw [if_neg h]
    omega
theorem cumL_mono (y : Int) {a b : Nat} (h : a ≤ b) (hb : b ≤ 12) : cumL y a ≤ cumL y b := by
  induction b with
  | zero => obtain rfl : a = 0 := by omega
            exact Int.le_refl _
  | succ b ih =>
    rcases Nat.lt_or_ge a (b + 1) with hlt | hge
    · have := ih (by omega) (by omega)
      have := lenK_pos y (k := b) (by omega)
      rw [cumL]; omega
    · obtain rfl : a = b + 1 := by omega
      exact Int.le_refl _
theorem aheadL_mono {y z : Int} (h : y ≤ z) : aheadL y ≤ aheadL z := by
  unfold aheadL; omega
theorem aheadL_one : aheadL 1 = 0 := by decide
theorem aheadL_top : aheadL 10000 = 3652059 := by decide

/-- the date of a day: month k + 1 -/
structure DateIs (n y : Int) (k : Nat) (d : Int) : Prop where
  year : 1 ≤ y ∧ y ≤ 9999
  month : k < 12
  day : 1 ≤ d ∧ d ≤ lenK y k
  sum : aheadL y + cumL y k + d - 1 = n

theorem DateIs.within {n y d : Int} {k : Nat} (h : DateIs n y k d) : aheadL y ≤ n ∧ n < aheadL (y + 1) := by
  have a := cumL_mono y (a := 0) (b := k) (by omega) (by have := h.month; omega)
  have b := cumL_mono y (a := k + 1) (b := 12) (by have := h.month; omega) (by omega)
  have e : cumL y (k + 1) = cumL y k + lenK y k := rfl
  have e0 : cumL y 0 = 0 := rfl
  have := h.day; have := h.sum; have := aheadL_succ y
  omega
theorem DateIs.range {n y d : Int} {k : Nat} (h : DateIs n y k d) : 0 ≤ n ∧ n < 3652059 := by
  have := h.within
  have a := aheadL_mono (y := 1) (z := y) h.year.1
  have b := aheadL_mono (y := y + 1) (z := 10000) (by have := h.year.2; omega)
  rw [aheadL_one] at a
  rw [aheadL_top] at b
  omega
/-- a day has one date -/
theorem DateIs.uniq {n y y' d d' : Int} {k k' : Nat} (h : DateIs n y k d) (h' : DateIs n y' k' d') : y = y' ∧ k = k' ∧ d = d' := by
  have w := h.within
  have w' := h'.within
  have hy : y = y' := by
    rcases Int.lt_trichotomy y y' with hlt | heq | hgt
    · have := aheadL_mono (y := y + 1) (z := y') (by omega); omega
    · exact heq
    · have := aheadL_mono (y := y' + 1) (z := y) (by omega); omega
  subst hy
  have s := h.sum; have s' := h'.sum
  have d1 := h.day; have d2 := h'.day
  have hk : k = k' := by
    rcases Nat.lt_trichotomy k k' with hlt | heq | hgt
    · have a := cumL_mono y (a := k + 1) (b := k') hlt (by have := h'.month; omega)
      have e : cumL y (k + 1) = cumL y k + lenK y k := rfl
      omega
    · exact heq
    · have a := cumL_mono y (a := k' + 1) (b := k) hgt (by have := h.month; omega)
      have e : cumL y (k' + 1) = cumL y k' + lenK y k' := rfl
      omega
  subst hk
  exact ⟨rfl, rfl, by omega⟩

/-- the next day's date -/
theorem DateIs.next {n y y' d d' : Int} {k k' : Nat} (h : DateIs n y k d) (h' : DateIs (n + 1) y' k' d') :
    (y' = y ∧ k' = k ∧ d' = d + 1) ∨ (y' = y ∧ k' = k + 1 ∧ d' = 1 ∧ 28 ≤ d) ∨ (y' = y + 1 ∧ k' = 0 ∧ d' = 1 ∧ k = 11 ∧ d = 31) := by
  have hs := h.sum; have hd := h.day; have hk := h.month; have hy := h.year
  by_cases h1 : d + 1 ≤ lenK y k
  · obtain ⟨e1, e2, e3⟩ := h'.uniq (⟨hy, hk, ⟨by omega, h1⟩, by omega⟩ : DateIs (n + 1) y k (d + 1))
    exact .inl ⟨e1, e2, e3⟩
  · have hd2 : d = lenK y k := by omega
    by_cases h2 : k + 1 < 12
    · have e : cumL y (k + 1) = cumL y k + lenK y k := rfl
      have hl := lenK_pos y h2
      obtain ⟨e1, e2, e3⟩ := h'.uniq (⟨hy, h2, ⟨by omega, by omega⟩, by omega⟩ : DateIs (n + 1) y (k + 1) 1)
      have := lenK_pos y hk
      exact .inr (.inl ⟨e1, e2, e3, by omega⟩)
    · obtain rfl : k = 11 := by omega
      have e : cumL y 12 = cumL y 11 + lenK y 11 := rfl
      have ea := aheadL_succ y
      have h31 : lenK y 11 = 31 := by unfold lenK; simp [monthsL]
      have r := h'.range
      have h9 : y + 1 ≤ 9999 := by
        rcases Int.lt_or_le (y + 1) 10000 with hlt | hge
        · omega
        · have := aheadL_mono (y := 10000) (z := y + 1) hge
          rw [aheadL_top] at this
          omega
      have e0 : cumL (y + 1) 0 = 0 := rfl
      have hl := lenK_pos (y + 1) (k := 0) (by omega)
      obtain ⟨e1, e2, e3⟩ := h'.uniq (⟨⟨by omega, h9⟩, by omega, ⟨by omega, by omega⟩, by omega⟩ : DateIs (n + 1) (y + 1) 0 1)
      exact .inr (.inr ⟨e1, e2, e3, rfl, by omega⟩)

end Go.Proofs.YtmodofbelpaelaaDoor
