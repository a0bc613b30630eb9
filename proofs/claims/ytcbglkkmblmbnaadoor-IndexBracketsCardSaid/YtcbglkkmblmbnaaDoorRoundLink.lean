/- What Round computes, as a law over fractions: roundQ. -/
import Derived.Test.YtcbglkkmblmbnaaDoorRoundR
import Derived.Test.YtcbglkkmblmbnaaDoorRoundMath
namespace Go.Proofs.YtcbglkkmblmbnaaDoor
open Go.RowKit

theorem pos_num {u : Rat} : 0 < u.num ↔ 0 < u := by rw [Rat.lt_iff]; simp
theorem num_pos {u : Rat} (h : 0 < u.num) : 0 < u := pos_num.1 h
theorem odd_tmod (x : Int) : x.tmod 2 ≠ 0 ↔ x % 2 ≠ 0 := ⟨fun h e => h (Int.tmod_eq_zero_of_dvd (Int.dvd_of_emod_eq_zero e)), fun h e => h (Int.emod_eq_zero_of_dvd (Int.dvd_of_tmod_eq_zero e))⟩
theorem mul_den (q : Rat) : q * ((q.den : Int) : Rat) = (q.num : Rat) := by
  have h : q = Rat.divInt q.num q.den := (Rat.num_divInt_den q).symm
  have h2 : (q.num : Rat) / ((q.den : Int) : Rat) = q := by rw [← Rat.divInt_eq_div]; exact h.symm
  have hd : ((q.den : Int) : Rat) ≠ 0 := by
    intro e
    have := Rat.intCast_inj.1 (e.trans (show (0 : Rat) = ((0 : Int) : Rat) from rfl))
    have := q.den_pos; omega
  have h3 := Rat.div_mul_cancel (a := (q.num : Rat)) hd
  rw [h2] at h3
  exact h3

theorem nd_pos {q u : Rat} (hu : 0 < u.num) : 0 < (q.den : Int) * u.num := Int.mul_pos (by have := q.den_pos; omega) hu
/-- the amount over the unit, times the whole -/
theorem quot_mul (q u : Rat) (hu : 0 < u.num) : (q / u) * (((q.den : Int) * u.num : Int) : Rat) = ((q.num * (u.den : Int) : Int) : Rat) := by
  have h0 : u ≠ 0 := fun e => by have := num_pos hu; rw [e] at this; exact absurd this (by decide)
  have h1 := mul_den q
  have h2 := mul_den u
  have h3 := Rat.div_mul_cancel (a := q) h0
  rw [Rat.intCast_mul, Rat.intCast_mul]
  grind
theorem intCast_pos {z : Int} (h : 0 < z) : (0 : Rat) < (z : Rat) := by
  have := Rat.intCast_lt_intCast.2 h
  exact this
theorem floor_fl (t : Rat) : FL t t.floor := ⟨Rat.floor_le t, by have := Rat.lt_floor_add_one t; rw [Rat.intCast_add] at this; exact this⟩
/-- quotient and rest of whole numbers, as the floor of a fraction -/
theorem div_fl {t : Rat} {N D : Int} (hD : 0 < D) (h : t * (D : Rat) = (N : Rat)) : FL t (N / D) ∧ (t - ((N / D : Int) : Rat)) * (D : Rat) = ((N % D : Int) : Rat) := by
  have e := Int.mul_ediv_add_emod N D
  have r0 := Int.emod_nonneg N (show D ≠ 0 by omega)
  have r1 := Int.emod_lt_of_pos N hD
  have hp := intCast_pos hD
  have e2 : (D : Rat) * ((N / D : Int) : Rat) + ((N % D : Int) : Rat) = (N : Rat) := by rw [← Rat.intCast_mul, ← Rat.intCast_add, e]
  have hr : (t - ((N / D : Int) : Rat)) * (D : Rat) = ((N % D : Int) : Rat) := by grind
  have c0 : (0 : Rat) ≤ ((N % D : Int) : Rat) := by have := Rat.intCast_le_intCast.2 r0; exact this
  have c1 : ((N % D : Int) : Rat) < (D : Rat) := Rat.intCast_lt_intCast.2 r1
  refine ⟨⟨?_, ?_⟩, hr⟩
  · have := Rat.le_of_mul_le_mul_right (a := 0) (b := t - ((N / D : Int) : Rat)) (c := (D : Rat)) (by rw [hr]; grind) hp
    grind
  · have := Rat.lt_of_mul_lt_mul_right (a := t - ((N / D : Int) : Rat)) (b := 1) (c := (D : Rat)) (by rw [hr]; grind) (by grind)
    grind

theorem quot_neg {q u : Rat} (hu : 0 < u.num) : q / u < 0 ↔ q.num < 0 := by
  rw [Rat.div_lt_iff (num_pos hu), Rat.zero_mul]
  constructor
  · intro h
    have h1 : 0 < (-q).num := pos_num.2 (by grind)
    rw [Rat.neg_num] at h1; omega
  · intro h
    have h1 : 0 < -q := pos_num.1 (by rw [Rat.neg_num]; omega)
    grind

theorem half_link {p d : Int} : (halfI p d = 0 ↔ 2 * p = d) ∧ (0 < halfI p d ↔ d < 2 * p) := by unfold halfI; split <;> (try split) <;> constructor <;> omega
/-- ROUND's number of units is kQ's -/
theorem rk_link {q u : Rat} (hu : 0 < u.num) {mode : Int} (m1 : 1 ≤ mode) (m2 : mode ≤ 6) :
    rkI mode (decide (q.num < 0)) (q.num * u.den) (q.den * u.num) = kQ mode (q / u) (q / u).floor := by
  have hD := nd_pos (q := q) hu
  have hT := quot_mul q u hu
  obtain ⟨hf, hr⟩ := div_fl hD hT
  obtain hfl := fl_unique (floor_fl (q / u)) hf
  have hneg := quot_neg (q := q) hu
  rw [hfl]
  generalize q.num * (u.den : Int) = N at *
  generalize (q.den : Int) * u.num = D at *
  generalize q / u = t at *
  have hp := intCast_pos hD
  have hex : t = ((N / D : Int) : Rat) ↔ N % D = 0 := by
    constructor
    · intro h
      have h0 : (t - ((N / D : Int) : Rat)) * (D : Rat) = 0 := by grind
      rw [h0] at hr
      exact (Rat.intCast_inj.1 hr).symm
    · intro h
      rw [h] at hr
      have h0 : (t - ((N / D : Int) : Rat)) * (D : Rat) = 0 := hr
      rcases Rat.mul_eq_zero.1 h0 with h | h
      · grind
      · grind
  have hgt : 1 < 2 * (t - ((N / D : Int) : Rat)) ↔ D < 2 * (N % D) := by
    rw [← Rat.mul_lt_mul_right hp, show 2 * (t - ((N / D : Int) : Rat)) * (D : Rat) = ((2 * (N % D) : Int) : Rat) by rw [Rat.intCast_mul, ← hr]; have : ((2 : Int) : Rat) = 2 := rfl; rw [this]; grind, show (1 : Rat) * (D : Rat) = (D : Rat) by grind]
    exact Rat.intCast_lt_intCast
  have heq : 2 * (t - ((N / D : Int) : Rat)) = 1 ↔ 2 * (N % D) = D := by
    have e : 2 * (t - ((N / D : Int) : Rat)) * (D : Rat) = ((2 * (N % D) : Int) : Rat) := by rw [Rat.intCast_mul, ← hr]; have : ((2 : Int) : Rat) = 2 := rfl; rw [this]; grind
    constructor
    · intro h
      rw [h] at e
      have : (D : Rat) = ((2 * (N % D) : Int) : Rat) := by rw [← e]; grind
      exact (Rat.intCast_inj.1 this).symm
    · intro h
      rw [h] at e
      have : (2 * (t - ((N / D : Int) : Rat)) - 1) * (D : Rat) = 0 := by grind
      rcases Rat.mul_eq_zero.1 this with h | h
      · grind
      · grind
  have hodd : ((N / D).tmod 2 != 0) = decide ((N / D) % 2 ≠ 0) := by
    rw [Bool.eq_iff_iff, bne_iff_ne, decide_eq_true_eq]; exact odd_tmod _
  have hup : upI mode (N / D) (N % D) D (decide (q.num < 0)) = true ↔ UpQ mode t (N / D) := by
    obtain ⟨p1, p2⟩ := @half_link (N % D) D
    have six : mode = 1 ∨ mode = 2 ∨ mode = 3 ∨ mode = 4 ∨ mode = 5 ∨ mode = 6 := by omega
    unfold upI UpQ
    rcases six with rfl | rfl | rfl | rfl | rfl | rfl
    · simp [hneg]
    · simp [hneg]
    · simp
    · simp
    · rw [if_neg (by decide), if_neg (by decide), if_neg (by decide), if_neg (by decide), if_neg (by decide), if_neg (by decide), if_neg (by decide), if_neg (by decide), if_pos rfl, hgt, heq, hneg]
      unfold nearI tieI
      by_cases h : halfI (N % D) D = 0
      · rw [if_pos h, if_pos rfl]
        have h5 := p1.1 h
        rw [Bool.not_eq_true', decide_eq_false_iff_not]
        exact ⟨fun h6 => .inr ⟨h5, h6⟩, fun h6 => by rcases h6 with h6 | ⟨_, h6⟩; exact absurd h6 (by omega); exact h6⟩
      · rw [if_neg h]; have : ¬ 2 * (N % D) = D := fun e => h (p1.2 e); simp only [decide_eq_true_eq]; rw [p2]; omega
    · rw [if_neg (by decide), if_neg (by decide), if_neg (by decide), if_neg (by decide), if_neg (by decide), if_neg (by decide), if_neg (by decide), if_neg (by decide), if_neg (by decide), hgt, heq]
      unfold nearI tieI
      by_cases h : halfI (N % D) D = 0
      · rw [if_pos h, if_neg (by decide), hodd]
        have h5 := p1.1 h
        rw [decide_eq_true_eq]
        exact ⟨fun h6 => .inr ⟨h5, h6⟩, fun h6 => by rcases h6 with h6 | ⟨_, h6⟩; exact absurd h6 (by omega); exact h6⟩
      · rw [if_neg h]; have : ¬ 2 * (N % D) = D := fun e => h (p1.2 e); simp only [decide_eq_true_eq]; rw [p2]; omega
  unfold rkI kQ
  by_cases h : N % D = 0
  · rw [if_pos h, if_pos (hex.2 h)]
  · rw [if_neg h, if_neg (fun e => h (hex.1 e))]
    by_cases h2 : UpQ mode t (N / D)
    · rw [if_pos (hup.2 h2), if_pos h2]
    · rw [if_neg (fun e => h2 (hup.1 e)), if_neg h2]

/-- a fraction rounded -/
def roundQ (mode : Int) (u q : Rat) : Rat := (kQ mode (q / u) (q / u).floor : Rat) * u
theorem roundI_good {q u : Rat} (hq : Good q) (hu : Good u) (h0 : 0 < u.num) {mode : Int} (m1 : 1 ≤ mode) (m2 : mode ≤ 6) : roundI q.num q.den mode u.num u.den = goodR (roundQ mode u q) := by
  have v1 : validB q.num q.den = true := by rw [validB_good]; exact decide_eq_true hq
  have v2 : validB u.num u.den = true := by rw [validB_good]; exact decide_eq_true hu
  have v3 : rdB mode u.num u.den = true := by unfold rdB; rw [if_neg (by omega), v2, decide_eq_true (show 0 < mode by omega), decide_eq_true m2, decide_eq_true h0]; rfl
  rw [roundI_some v1 v3 (by omega), rk_link h0 m1 m2]
  congr 1
  unfold roundQ
  generalize kQ mode (q / u) (q / u).floor = k
  have h2 := mul_den u
  have hd : ((u.den : Int) : Rat) ≠ 0 := fun e => by
    have := intCast_pos (z := (u.den : Int)) (by have := u.den_pos; omega)
    rw [e] at this; exact absurd this (by decide)
  rw [Rat.divInt_eq_div, Rat.intCast_mul, ← h2]
  have := Rat.div_mul_cancel (a := (k : Rat) * (u * ((u.den : Int) : Rat))) hd
  have h5 : ((k : Rat) * (u * ((u.den : Int) : Rat)) / ((u.den : Int) : Rat) - (k : Rat) * u) * ((u.den : Int) : Rat) = 0 := by grind
  rcases Rat.mul_eq_zero.1 h5 with h | h
  · grind
  · exact absurd h hd
/-- what Round answers without an error -/
theorem round_ok {n d mode un ud : Int} {a : Rat} (h : roundI n d mode un ud = .ok a) :
    ∃ q, Good q ∧ n = q.num ∧ d = q.den ∧ rdB mode un ud = true ∧ Good a ∧ ((mode = 0 ∧ a = q) ∨ (1 ≤ mode ∧ mode ≤ 6 ∧ ∃ u : Rat, Good u ∧ 0 < u.num ∧ un = u.num ∧ ud = u.den ∧ a = roundQ mode u q)) := by
  cases hv : validB n d
  · rw [roundI_frac hv] at h; cases h
  cases hy : rdB mode un ud
  · rw [roundI_round hv hy] at h; cases h
  obtain ⟨q, hq, rfl, rfl⟩ := good_of_validB hv
  by_cases h0 : mode = 0
  · subst h0
    rw [roundI_none hv hy] at h
    injection h with h
    rw [Rat.num_divInt_den] at h
    subst h
    exact ⟨q, hq, rfl, rfl, rfl, hq, .inl ⟨rfl, rfl⟩⟩
  · obtain ⟨m1, m2, hu, hpos⟩ := rdB_some hy h0
    obtain ⟨u, hg, rfl, rfl⟩ := good_of_validB hu
    rw [roundI_good hq hg hpos m1 m2] at h
    unfold goodR at h
    split at h
    · rename_i hga
      injection h with h
      subst h
      exact ⟨q, hq, rfl, rfl, rfl, hga, .inr ⟨m1, m2, u, hg, hpos, rfl, rfl, rfl⟩⟩
    · cases h
theorem quot_mono {p q u : Rat} (hu : 0 < u.num) (h : p ≤ q) : p / u ≤ q / u := by
  have hp := num_pos hu
  have h0 : u ≠ 0 := fun e => by rw [e] at hp; exact absurd hp (by decide)
  have := Rat.le_of_mul_le_mul_right (a := p / u) (b := q / u) (c := u) (by rw [Rat.div_mul_cancel h0, Rat.div_mul_cancel h0]; exact h) hp
  exact this
theorem roundQ_mono {mode : Int} {p q u : Rat} (hu : 0 < u.num) (h : p ≤ q) : roundQ mode u p ≤ roundQ mode u q :=
  Rat.mul_le_mul_of_nonneg_right (Rat.intCast_le_intCast.2 (kQ_mono (floor_fl _) (floor_fl _) (quot_mono hu h))) (by have := num_pos hu; grind)
theorem roundQ_neg {mode : Int} {q u : Rat} (m1 : 1 ≤ mode) (m2 : mode ≤ 6) : roundQ (turnM mode) u (-q) = -roundQ mode u q := by
  have e : -q / u = -(q / u) := by rw [Rat.div_def, Rat.div_def]; grind
  unfold roundQ
  rw [e, kQ_neg (floor_fl (q / u)) (floor_fl (-(q / u))) m1 m2, Rat.intCast_neg]
  grind
end Go.Proofs.YtcbglkkmblmbnaaDoor
