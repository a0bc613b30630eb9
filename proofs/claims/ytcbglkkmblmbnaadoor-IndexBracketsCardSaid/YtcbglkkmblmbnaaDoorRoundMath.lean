/- Plain law of rounding: t is an amount over the unit, f the whole number not above it. -/
import Derived.WalkKit
namespace Go.Proofs.YtcbglkkmblmbnaaDoor

/-- is the upper neighbour taken? -/
def UpQ (mode : Int) (t : Rat) (f : Int) : Prop :=
  if mode = 1 then t < 0 else if mode = 2 then ¬ t < 0 else if mode = 3 then False else if mode = 4 then True
  else if mode = 5 then 1 < 2 * (t - f) ∨ (2 * (t - f) = 1 ∧ ¬ t < 0) else 1 < 2 * (t - f) ∨ (2 * (t - f) = 1 ∧ f % 2 ≠ 0)
instance (mode : Int) (t : Rat) (f : Int) : Decidable (UpQ mode t f) := by unfold UpQ; infer_instance
def kQ (mode : Int) (t : Rat) (f : Int) : Int := if t = f then f else if UpQ mode t f then f + 1 else f
/-- f is the floor of t -/
def FL (t : Rat) (f : Int) : Prop := (f : Rat) ≤ t ∧ t < (f : Rat) + 1

theorem kQ_near {mode : Int} {t : Rat} {f : Int} : f ≤ kQ mode t f ∧ kQ mode t f ≤ f + 1 := by
  unfold kQ; split
  · omega
  · split <;> omega
theorem fl_le {t s : Rat} {f g : Int} (h1 : FL t f) (h2 : FL s g) (h : t ≤ s) : f ≤ g := by
  have h3 : (f : Rat) < ((g + 1 : Int) : Rat) := by
    obtain ⟨a, _⟩ := h1
    obtain ⟨_, d⟩ := h2
    rw [Rat.intCast_add]
    have e : ((1 : Int) : Rat) = 1 := rfl
    rw [e]
    grind
  have := Rat.intCast_lt_intCast.1 h3
  omega
theorem fl_unique {t : Rat} {f g : Int} (h1 : FL t f) (h2 : FL t g) : f = g := by
  have := fl_le h1 h2 (Rat.le_refl)
  have := fl_le h2 h1 (Rat.le_refl)
  omega
theorem neg_step {t : Rat} {f : Int} (h : (f : Rat) ≤ t) (h0 : t < 0) : f + 1 ≤ 0 ∧ (f : Rat) + 1 ≤ 0 := by
  have h1 : (f : Rat) < ((0 : Int) : Rat) := by show (f : Rat) < 0; grind
  have h2 := Rat.intCast_lt_intCast.1 h1
  refine ⟨by omega, ?_⟩
  have h3 : ((f + 1 : Int) : Rat) ≤ ((0 : Int) : Rat) := Rat.intCast_le_intCast.2 (by omega)
  rw [Rat.intCast_add] at h3
  exact h3
theorem up_mono {mode : Int} {t s : Rat} {f : Int} (a1 : (f : Rat) ≤ t) (b2 : s < (f : Rat) + 1) (h : t ≤ s) (hu : UpQ mode t f) : UpQ mode s f := by
  unfold UpQ at hu ⊢
  split
  · rename_i hm
    rw [if_pos hm] at hu
    have := (neg_step a1 hu).2
    grind
  · rename_i hm
    rw [if_neg hm] at hu
    split
    · rename_i hm
      rw [if_pos hm] at hu
      grind
    · rename_i hm
      rw [if_neg hm] at hu
      split
      · rename_i hm
        rw [if_pos hm] at hu
        exact hu
      · rename_i hm
        rw [if_neg hm] at hu
        split
        · trivial
        · rename_i hm
          rw [if_neg hm] at hu
          split
          · rename_i hm
            rw [if_pos hm] at hu
            grind
          · rename_i hm
            rw [if_neg hm] at hu
            grind
theorem kQ_mono {mode : Int} {t s : Rat} {f g : Int} (h1 : FL t f) (h2 : FL s g) (h : t ≤ s) : kQ mode t f ≤ kQ mode s g := by
  have hfg := fl_le h1 h2 h
  have a := @kQ_near mode t f
  have b := @kQ_near mode s g
  rcases Int.lt_or_le f g with hl | hl
  · omega
  · obtain rfl : f = g := by omega
    obtain ⟨a1, a2⟩ := h1
    obtain ⟨b1, b2⟩ := h2
    have key : kQ mode t f = f + 1 → kQ mode s f = f + 1 := by
      intro hk
      have ht : ¬ t = f := fun e => by unfold kQ at hk; rw [if_pos e] at hk; omega
      have hu : UpQ mode t f := by
        rcases Decidable.em (UpQ mode t f) with hu | hu
        · exact hu
        · unfold kQ at hk; rw [if_neg ht, if_neg hu] at hk; omega
      unfold kQ
      rw [if_neg (by grind), if_pos (up_mono a1 b2 h hu)]
    rcases Int.lt_or_le f (kQ mode t f) with hk | hk
    · have := key (by omega); omega
    · omega
/-- the way that the other sign takes -/
def turnM (mode : Int) : Int := if mode = 3 then 4 else if mode = 4 then 3 else mode
theorem kQ_neg {mode : Int} {t : Rat} {f g : Int} (h1 : FL t f) (h2 : FL (-t) g) (m1 : 1 ≤ mode) (m2 : mode ≤ 6) : kQ (turnM mode) (-t) g = -kQ mode t f := by
  by_cases he : t = f
  · have : FL (-t) (-f) := by rw [he]; unfold FL; rw [Rat.intCast_neg]; grind
    obtain rfl := fl_unique h2 this
    unfold kQ
    rw [if_pos he, if_pos (by rw [he, Rat.intCast_neg])]
  · have h3 : FL (-t) (-f - 1) := by
      obtain ⟨a1, a2⟩ := h1
      unfold FL
      rw [Rat.intCast_sub, Rat.intCast_neg]
      have e : ((1 : Int) : Rat) = 1 := rfl
      rw [e]
      grind
    obtain rfl := fl_unique h2 h3
    obtain ⟨a1, a2⟩ := h1
    have e0 : ((-f - 1 : Int) : Rat) = -(f : Rat) - 1 := by rw [Rat.intCast_sub, Rat.intCast_neg]; rfl
    have hne : ¬ -t = ((-f - 1 : Int) : Rat) := by rw [e0]; grind
    have hup : UpQ (turnM mode) (-t) (-f - 1) ↔ ¬ UpQ mode t f := by
      have six : mode = 1 ∨ mode = 2 ∨ mode = 3 ∨ mode = 4 ∨ mode = 5 ∨ mode = 6 := by omega
      unfold UpQ turnM
      rw [e0]
      rcases six with rfl | rfl | rfl | rfl | rfl | rfl
      · have : t ≠ 0 := fun h => he (by
          subst h
          have := fl_unique (t := 0) (f := f) (g := 0) ⟨a1, a2⟩ (by unfold FL; constructor <;> decide +kernel)
          subst this; rfl)
        simp; grind
      · have : t ≠ 0 := fun h => he (by
          subst h
          have := fl_unique (t := 0) (f := f) (g := 0) ⟨a1, a2⟩ (by unfold FL; constructor <;> decide +kernel)
          subst this; rfl)
        simp; grind
      · simp
      · simp
      · have : t ≠ 0 := fun h => he (by
          subst h
          have := fl_unique (t := 0) (f := f) (g := 0) ⟨a1, a2⟩ (by unfold FL; constructor <;> decide +kernel)
          subst this; rfl)
        simp; grind
      · have : (-f - 1) % 2 ≠ 0 ↔ ¬ f % 2 ≠ 0 := by omega
        simp only [this]; simp; grind
    unfold kQ
    rw [if_neg he, if_neg hne]
    by_cases hu : UpQ mode t f
    · rw [if_pos hu, if_neg (by rw [hup]; exact fun h => h hu)]; omega
    · rw [if_neg hu, if_pos (hup.2 hu)]; omega
/-- how near, and by which side -/
theorem kQ_side {mode : Int} {t : Rat} {f : Int} (h : FL t f) (m1 : 1 ≤ mode) (m2 : mode ≤ 6) :
    (kQ mode t f : Rat) < t + 1 ∧ t < (kQ mode t f : Rat) + 1 ∧ (mode = 3 → (kQ mode t f : Rat) ≤ t) ∧ (mode = 4 → t ≤ (kQ mode t f : Rat)) ∧
    (mode = 1 → (0 ≤ t → (kQ mode t f : Rat) ≤ t ∧ 0 ≤ kQ mode t f) ∧ (t < 0 → t ≤ (kQ mode t f : Rat) ∧ kQ mode t f ≤ 0)) ∧
    (mode = 2 → (0 ≤ t → t ≤ (kQ mode t f : Rat)) ∧ (t < 0 → (kQ mode t f : Rat) ≤ t)) ∧
    (5 ≤ mode → 2 * ((kQ mode t f : Rat) - t) ≤ 1 ∧ 2 * (t - (kQ mode t f : Rat)) ≤ 1) := by
  obtain ⟨a1, a2⟩ := h
  have e1 : ((f + 1 : Int) : Rat) = (f : Rat) + 1 := by rw [Rat.intCast_add]; rfl
  have i0 : 0 ≤ t → 0 ≤ f := fun h0 => by
    have : ((0 : Int) : Rat) < ((f + 1 : Int) : Rat) := by rw [e1]; show (0 : Rat) < _; grind
    have := Rat.intCast_lt_intCast.1 this; omega
  have i1 : t < 0 → f + 1 ≤ 0 := fun h0 => (neg_step a1 h0).1
  have six : mode = 1 ∨ mode = 2 ∨ mode = 3 ∨ mode = 4 ∨ mode = 5 ∨ mode = 6 := by omega
  unfold kQ UpQ
  rcases six with rfl | rfl | rfl | rfl | rfl | rfl <;> simp <;> (try split) <;> (try split) <;> (try rw [e1]) <;> grind
end Go.Proofs.YtcbglkkmblmbnaaDoor
