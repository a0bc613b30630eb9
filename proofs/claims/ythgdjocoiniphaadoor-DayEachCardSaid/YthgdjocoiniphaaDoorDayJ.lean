/- A set's days and Next: plain law. -/
import Derived.Test.YthgdjocoiniphaaDoorDayI
namespace Go.Proofs.YthgdjocoiniphaaDoor

theorem spanD_mem {f x : Int} {k : Nat} : x ∈ spanD f k ↔ f ≤ x ∧ x < f + k := by
  induction k with
  | zero => exact ⟨fun h => (by cases h), fun h => by omega⟩
  | succ k ih =>
    rw [spanD, List.mem_append, ih, List.mem_singleton]
    omega
theorem spanD_rise {f : Int} {k : Nat} : (spanD f k).Pairwise (· < ·) := by
  induction k with
  | zero => exact List.Pairwise.nil
  | succ k ih =>
    rw [spanD, List.pairwise_append]
    refine ⟨ih, List.pairwise_singleton _ _, fun a ha b hb => ?_⟩
    rw [spanD_mem] at ha
    rw [List.mem_singleton] at hb
    omega
theorem daysL_cons (p : Pc Unit) (r : List (Pc Unit)) : daysL (p :: r) = spanD p.f (nD p) ++ daysL r := rfl
theorem daysL_mem {b : Int} {l : List (Pc Unit)} (h : Rise b l) {x : Int} : x ∈ daysL l ↔ hasD l x := by
  induction l generalizing b with
  | nil => exact ⟨fun h => (by cases h), fun h => absurd h hasD_nil⟩
  | cons p r ih =>
    obtain ⟨h1, h2, h3⟩ := h
    rw [daysL_cons, List.mem_append, hasD_cons, ih h3, spanD_mem]
    unfold nD
    rw [show p.f + ((p.t - p.f).toNat : Int) = p.t by omega]
theorem daysL_rise {b : Int} {l : List (Pc Unit)} (h : Rise b l) : (daysL l).Pairwise (· < ·) := by
  induction l generalizing b with
  | nil => exact List.Pairwise.nil
  | cons p r ih =>
    obtain ⟨h1, h2, h3⟩ := h
    rw [daysL_cons, List.pairwise_append]
    refine ⟨spanD_rise, ih h3, fun a ha c hc => ?_⟩
    rw [spanD_mem] at ha
    unfold nD at ha
    obtain ⟨q, hq, q1, _⟩ := (daysL_mem h3).1 hc
    have := h3.mem hq
    omega
theorem daysL_len {b : Int} {l : List (Pc Unit)} (h : Rise b l) : ((daysL l).length : Int) = lenS l := by
  induction l generalizing b with
  | nil => rfl
  | cons p r ih =>
    obtain ⟨h1, h2, h3⟩ := h
    rw [daysL_cons, List.length_append, spanD_len, lenS, ← ih h3]
    unfold nD
    omega

theorem nextS_is {b n y : Int} {l : List (Pc Unit)} (h : Rise b l) (hy : hasD l y) (hn : n ≤ y) (hno : ∀ m, n ≤ m → m < y → ¬ hasD l m) : nextS l n = some y := by
  induction l generalizing b with
  | nil => exact absurd hy hasD_nil
  | cons p r ih =>
    obtain ⟨h1, h2, h3⟩ := h
    rw [nextS]
    by_cases hp : n < p.t
    · rw [if_pos hp]
      have hle : y ≤ max n p.f := by
        rcases Int.lt_or_le (max n p.f) y with hlt | hge
        · exact absurd (hasD_cons.2 (.inl ⟨by omega, by omega⟩)) (hno (max n p.f) (by omega) hlt)
        · exact hge
      have hge : max n p.f ≤ y := by
        rcases hasD_cons.1 hy with hh | ⟨q, hq, q1, _⟩
        · omega
        · have := h3.mem hq; omega
      rw [show max n p.f = y by omega]
    · rw [if_neg hp]
      refine ih h3 ((hasD_cons.1 hy).resolve_left (fun hh => by omega)) (fun m m1 m2 hm => hno m m1 m2 (hasD_cons.2 (.inr hm)))

/-- the day from which on it is asked -/
def atO (pre : List Int) : Int := match pre.getLast? with | some z => z + 1 | none => 0
theorem atO_snoc (pre : List Int) (x : Int) : atO (pre ++ [x]) = x + 1 := by simp [atO]
theorem atO_nil : atO [] = 0 := rfl

theorem next_day {l : List (Pc Unit)} (h : Rise 0 l) {pre : List Int} {y : Int} (hpre : pre = (daysL l).take pre.length) (hy : (daysL l)[pre.length]? = some y) : nextS l (atO pre) = some y ∧ hasB l y = true ∧ 0 ≤ y := by
  have hs := daysL_rise h
  have hym : y ∈ daysL l := List.mem_of_getElem? hy
  have hyd := (daysL_mem h).1 hym
  have hlt : pre.length < (daysL l).length := (List.getElem?_eq_some_iff.1 hy).1
  have hye : (daysL l)[pre.length] = y := (List.getElem?_eq_some_iff.1 hy).2
  have hget : ∀ j (hj : j < (daysL l).length), j < pre.length → (daysL l)[j] < y := fun j hj hjl => by
    rw [← hye]; exact List.pairwise_iff_getElem.1 hs j pre.length hj hlt hjl
  have hge : ∀ j (hj : j < (daysL l).length), pre.length ≤ j → y ≤ (daysL l)[j] := fun j hj hjl => by
    rcases Nat.lt_or_ge pre.length j with h1 | h1
    · have := List.pairwise_iff_getElem.1 hs pre.length j hlt hj h1
      rw [hye] at this; omega
    · obtain rfl : j = pre.length := by omega
      rw [hye]; exact Int.le_refl _
  have h0 : 0 ≤ y := by obtain ⟨q, hq, q1, _⟩ := hyd; have := h.mem hq; omega
  refine ⟨?_, hasB_iff.2 hyd, h0⟩
  rcases Nat.eq_zero_or_pos pre.length with hz | hz
  · obtain rfl := List.eq_nil_of_length_eq_zero hz
    rw [atO_nil]
    refine nextS_is h hyd h0 (fun m _ hm hd => ?_)
    obtain ⟨j, hj, e⟩ := List.getElem_of_mem ((daysL_mem h).2 hd)
    have := hge j hj (Nat.zero_le _)
    omega
  · obtain ⟨z, hz2, hzl⟩ : ∃ z, pre.getLast? = some z ∧ (daysL l)[pre.length - 1]? = some z := by
      refine ⟨pre[pre.length - 1]'(by omega), ?_, ?_⟩
      · rw [List.getLast?_eq_getElem?]; exact List.getElem?_eq_getElem _
      · have h1 : pre[pre.length - 1]? = ((daysL l).take pre.length)[pre.length - 1]? := by rw [← hpre]
        rw [List.getElem?_take_of_lt (by omega), List.getElem?_eq_getElem (by omega)] at h1
        exact h1.symm
    have hzlt : pre.length - 1 < (daysL l).length := (List.getElem?_eq_some_iff.1 hzl).1
    have hze : (daysL l)[pre.length - 1] = z := (List.getElem?_eq_some_iff.1 hzl).2
    have ea : atO pre = z + 1 := by unfold atO; rw [hz2]
    rw [ea]
    have := hget (pre.length - 1) hzlt (by omega)
    rw [hze] at this
    refine nextS_is h hyd (by omega) (fun m hm1 hm hd => ?_)
    obtain ⟨j, hj, e⟩ := List.getElem_of_mem ((daysL_mem h).2 hd)
    rcases Nat.lt_or_ge j pre.length with h1 | h1
    · rcases Nat.lt_or_ge j (pre.length - 1) with h2 | h2
      · have := List.pairwise_iff_getElem.1 hs j (pre.length - 1) hj hzlt h2
        rw [hze] at this; omega
      · obtain rfl : j = pre.length - 1 := by omega
        rw [hze] at e; omega
    · have := hge j hj h1
      omega

end Go.Proofs.YthgdjocoiniphaaDoor
