/- The walk of RoundAgain. -/
import Derived.Test.YtcbglkkmblmbnaaDoorRoundM
namespace Go.Proofs.YtcbglkkmblmbnaaDoor
open Go.RowKit

/-- how near, and by which side -/
theorem round_side {mode : Int} {q u : Rat} (hu : 0 < u.num) (m1 : 1 ≤ mode) (m2 : mode ≤ 6) :
    roundQ mode u q - q < u ∧ q - roundQ mode u q < u ∧ (mode = 3 → roundQ mode u q ≤ q) ∧ (mode = 4 → q ≤ roundQ mode u q) ∧
    (mode = 1 → (0 ≤ q → roundQ mode u q ≤ q ∧ 0 ≤ roundQ mode u q) ∧ (q < 0 → q ≤ roundQ mode u q ∧ roundQ mode u q ≤ 0)) ∧
    (mode = 2 → (0 ≤ q → q ≤ roundQ mode u q) ∧ (q < 0 → roundQ mode u q ≤ q)) ∧
    (5 ≤ mode → 2 * (roundQ mode u q - q) ≤ u ∧ 2 * (q - roundQ mode u q) ≤ u) := by
  have hp := num_pos hu
  have h0 : u ≠ 0 := fun e => by rw [e] at hp; exact absurd hp (by decide)
  have ht := Rat.div_mul_cancel (a := q) h0
  obtain ⟨s1, s2, s3, s4, s5, s6, s7⟩ := kQ_side (floor_fl (q / u)) m1 m2
  have n0 : 0 ≤ q → 0 ≤ q / u := fun h => by
    rcases Rat.not_lt.1 (fun hl => absurd ((quot_neg (q := q) hu).1 hl) (by have := Rat.num_nonneg.2 h; omega)) with h
    exact h
  have n1 : q < 0 → q / u < 0 := fun h => (quot_neg hu).2 (by
    have h1 : 0 < -q := by grind
    have := pos_num.2 h1
    rw [Rat.neg_num] at this; omega)
  unfold roundQ
  generalize q / u = t at *
  generalize kQ mode t t.floor = k at *
  have M := fun (x y : Rat) (h : x ≤ y) => Rat.mul_le_mul_of_nonneg_right h (show (0 : Rat) ≤ u by grind)
  have Ml := fun (x y : Rat) (h : x < y) => Rat.mul_lt_mul_of_pos_right h hp
  have k0 : 0 ≤ k → (0 : Rat) ≤ (k : Rat) * u := fun h => by
    have h1 : (0 : Rat) ≤ (k : Rat) := Rat.intCast_le_intCast.2 h
    have := M _ _ h1; grind
  have k1 : k ≤ 0 → (k : Rat) * u ≤ 0 := fun h => by
    have h1 : (k : Rat) ≤ 0 := Rat.intCast_le_intCast.2 h
    have := M _ _ h1; grind
  refine ⟨?_, ?_, fun h => ?_, fun h => ?_, fun h => ⟨fun h5 => ?_, fun h5 => ?_⟩, fun h => ⟨fun h5 => ?_, fun h5 => ?_⟩, fun h => ⟨?_, ?_⟩⟩
  · have := Ml _ _ s1; grind
  · have := Ml _ _ s2; grind
  · have := M _ _ (s3 h); grind
  · have := M _ _ (s4 h); grind
  · obtain ⟨a, b⟩ := (s5 h).1 (n0 h5)
    exact ⟨by have := M _ _ a; grind, k0 b⟩
  · obtain ⟨a, b⟩ := (s5 h).2 (n1 h5)
    exact ⟨by have := M _ _ a; grind, k1 b⟩
  · have := M _ _ ((s6 h).1 (n0 h5)); grind
  · have := M _ _ ((s6 h).2 (n1 h5)); grind
  · have := M _ _ (s7 h).1; grind
  · have := M _ _ (s7 h).2; grind
/-- what was rounded stays -/
theorem round_idem {q : Rat} {mode un ud : Int} {a : Rat} (h : roundI q.num q.den mode un ud = .ok a) : roundI a.num a.den mode un ud = .ok a := by
  obtain ⟨q', hq, e1, e2, hrd, hga, hc⟩ := round_ok h
  obtain rfl := fv_inj e1 e2
  rcases hc with ⟨rfl, rfl⟩ | ⟨m1, m2, u, hu, h0, rfl, rfl, rfl⟩
  · exact h
  · rw [roundI_good hga hu h0 m1 m2]
    have : roundQ mode u (roundQ mode u q) = roundQ mode u q := by
      show roundQ mode u ((kQ mode (q / u) (q / u).floor : Rat) * u) = _
      exact roundQ_again h0 _
    rw [this]
    unfold goodR
    rw [if_pos hga]

end Go.Proofs.YtcbglkkmblmbnaaDoor
