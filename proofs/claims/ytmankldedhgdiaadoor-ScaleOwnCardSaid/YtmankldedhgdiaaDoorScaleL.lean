/- The plain laws of scales: rising, straight, found. -/
import Derived.Test.YtmankldedhgdiaaDoorScaleE
import Derived.Test.YtmankldedhgdiaaDoorScaleG
namespace Go.Proofs.YtmankldedhgdiaaDoor
open Go.RowKit

theorem tri (x y : Rat) : x < y ∨ x = y ∨ y < x := by
  by_cases h1 : x < y
  · exact .inl h1
  · by_cases h2 : y < x
    · exact .inr (.inr h2)
    · exact .inr (.inl (by grind))

/-- the scale at x, without bounds -/
def tot (x : Rat) : List (Rat × Rat) → Rat
  | [] => 0
  | b :: r => if x ≤ b.1 then 0 else b.2 * (topQ x r - b.1) + tot x r

/-- the Froms rise -/
def Up : List (Rat × Rat) → Prop
  | [] => True
  | [_] => True
  | b :: c :: r => b.1 < c.1 ∧ Up (c :: r)

theorem up_of {gs : List (Rat × Rat)} (h : ∀ (k : Nat) (x y : Rat × Rat), gs[k]? = some x → gs[k + 1]? = some y → x.1 < y.1) : Up gs := by
  induction gs with
  | nil => trivial
  | cons b r ih =>
    cases r with
    | nil => trivial
    | cons c r => exact ⟨h 0 b c rfl rfl, ih fun k x y hx hy => h (k + 1) x y hx hy⟩

theorem partO_some {b : Rat × Rat} {t : Rat} {p : GQ} (h : partO b t = some p) : p.1 = b.2 * (t - b.1) := by
  unfold partO at h
  split at h
  · unfold toO at h
    split at h
    · cases h; rfl
    · cases h
  · cases h

theorem foldO_tot {gs : List (Rat × Rat)} {x a c : Rat} (h : foldO a (bearsO x gs) = .ok c) : c = a + tot x gs := by
  induction gs generalizing a with
  | nil => cases h; exact (Rat.add_zero _).symm
  | cons b r ih =>
    unfold bearsO at h
    unfold tot
    split at h
    · rename_i hx
      cases h
      rw [if_pos hx, Rat.add_zero]
    · rename_i hx
      rw [if_neg hx]
      split at h
      · cases h
      · rename_i p hp
        unfold foldO at h
        split at h
        · rw [ih h, partO_some hp, Rat.add_assoc]
        · cases h

theorem foldO_good {l : List (Option GQ)} {a c : Rat} (ha : Good a) (h : foldO a l = .ok c) : Good c := by
  induction l generalizing a with
  | nil => cases h; exact ha
  | cons o r ih => cases o with
    | none => cases h
    | some p =>
      unfold foldO at h
      split at h
      · rename_i hg; exact ih hg h
      · cases h

/-- what is known where At answers a number -/
theorem atI_ok {s : List BI} {n d : Int} {a : Rat} (h : atI s n d = .ok a) : ∃ (gs : List (Rat × Rat)) (x : Rat), s = gs.map bR ∧ (∀ b ∈ gs, GoodB b) ∧ Up gs ∧ 0 < gs.length ∧ gs.length ≤ 32 ∧ Good x ∧ n = x.num ∧ d = x.den ∧ Good a ∧ a = tot x gs ∧ foldO 0 (bearsO x gs) = .ok a := by
  unfold atI at h
  split at h
  · cases h
  · rename_i hs
    obtain ⟨hs1, hv⟩ := askE_none hs
    obtain ⟨gs, rfl, hg, h1, h2, h3⟩ := scaleE_none hs1
    obtain ⟨x, hx, rfl, rfl⟩ := good_of_validB hv
    rw [fracB_bR, Rat.num_divInt_den] at h
    refine ⟨gs, x, rfl, hg, up_of h3, h2, h1, hx, rfl, rfl, foldO_good good_zero h, ?_, h⟩
    rw [foldO_tot h, Rat.zero_add]

theorem bR_inj {a b : Rat × Rat} (h : bR a = bR b) : a = b := by
  have h1 := congrArg fracB h
  exact h1 |> fun h => by
    have e : ∀ x, fracB (bR x) = x := fun x => by show (Rat.divInt x.1.num x.1.den, Rat.divInt x.2.num x.2.den) = x; rw [Rat.num_divInt_den, Rat.num_divInt_den]
    rwa [e, e] at h
theorem map_bR_inj {a b : List (Rat × Rat)} (h : a.map bR = b.map bR) : a = b := by
  have := congrArg (List.map fracB) h
  rwa [fracB_bR, fracB_bR] at this
theorem rat_eq_of {x y : Rat} (h1 : x.num = y.num) (h2 : (x.den : Int) = y.den) : x = y := fv_inj h1 h2

theorem min_le_l (x y : Rat) : minQ x y ≤ x := by unfold minQ; split <;> grind
theorem min_le_r (x y : Rat) : minQ x y ≤ y := by unfold minQ; split <;> grind
theorem min_mono {x z : Rat} (y : Rat) (h : x ≤ z) : minQ x y ≤ minQ z y := by unfold minQ; split <;> split <;> grind
theorem min_gt {x y b : Rat} (h1 : b < x) (h2 : b < y) : b < minQ x y := by unfold minQ; split <;> assumption

theorem top_mono {x z : Rat} (r : List (Rat × Rat)) (h : x ≤ z) : topQ x r ≤ topQ z r := by
  cases r with
  | nil => exact h
  | cons c r => exact min_mono _ h
theorem top_gt {x : Rat} {b : Rat × Rat} {r : List (Rat × Rat)} (hu : Up (b :: r)) (h : b.1 < x) : b.1 < topQ x r := by
  cases r with
  | nil => exact h
  | cons c r => exact min_gt h hu.1
theorem up_tail {b : Rat × Rat} {r : List (Rat × Rat)} (h : Up (b :: r)) : Up r := by
  cases r with
  | nil => trivial
  | cons c r => exact h.2

theorem tot_nonneg {x : Rat} {gs : List (Rat × Rat)} (hu : Up gs) (h : ∀ b ∈ gs, 0 ≤ b.2) : 0 ≤ tot x gs := by
  induction gs with
  | nil => exact Rat.le_refl
  | cons b r ih =>
    unfold tot
    split
    · exact Rat.le_refl
    · rename_i hx
      have h1 := top_gt hu (Rat.not_le.1 hx)
      have h2 := ih (up_tail hu) fun c hc => h c (List.mem_cons_of_mem _ hc)
      have h3 := Rat.mul_nonneg (h b (List.mem_cons_self ..)) (show 0 ≤ topQ x r - b.1 by grind)
      grind

theorem tot_mono {x z : Rat} {gs : List (Rat × Rat)} (hu : Up gs) (h : ∀ b ∈ gs, 0 ≤ b.2) (hxz : x ≤ z) : tot x gs ≤ tot z gs := by
  induction gs with
  | nil => exact Rat.le_refl
  | cons b r ih =>
    have hr : ∀ c ∈ r, 0 ≤ c.2 := fun c hc => h c (List.mem_cons_of_mem _ hc)
    by_cases hx : x ≤ b.1
    · have e : tot x (b :: r) = 0 := by unfold tot; rw [if_pos hx]
      rw [e]; exact tot_nonneg hu h
    · have hz : ¬ z ≤ b.1 := by grind
      unfold tot
      rw [if_neg hx, if_neg hz]
      have h1 := ih (up_tail hu) hr
      have h2 := top_mono r hxz
      have h3 := Rat.mul_nonneg (h b (List.mem_cons_self ..)) (show 0 ≤ topQ z r - topQ x r by grind)
      grind

theorem rate_nonneg {b : Rat × Rat} (h : ¬ (bR b).2.2.1 < 0) : 0 ≤ b.2 := by
  have h1 : 0 ≤ b.2.num := by have : (bR b).2.2.1 = b.2.num := rfl; omega
  exact Rat.num_nonneg.1 h1

/-- with no rate below 0 a scale never falls -/
theorem rises_law {s : List BI} {n1 d1 n2 d2 : Int} {a b : Rat} (h1 : atI s n1 d1 = .ok a) (h2 : atI s n2 d2 = .ok b) (hr : ∀ q ∈ s, ¬ q.2.2.1 < 0) :
    ∃ x z : Rat, Good x ∧ Good z ∧ Good a ∧ Good b ∧ n1 = x.num ∧ d1 = x.den ∧ n2 = z.num ∧ d2 = z.den ∧ 0 ≤ cmpQ x z * cmpQ a b := by
  obtain ⟨gs, x, rfl, _, hu, _, _, hx, rfl, rfl, hga, ha, _⟩ := atI_ok h1
  obtain ⟨gs', z, hgs, _, _, _, _, hz, rfl, rfl, hgb, hb, _⟩ := atI_ok h2
  obtain rfl := map_bR_inj hgs
  have hr2 : ∀ q ∈ gs, 0 ≤ q.2 := fun q hq => rate_nonneg (hr _ (List.mem_map_of_mem hq))
  refine ⟨x, z, hx, hz, hga, hgb, rfl, rfl, rfl, rfl, ?_⟩
  rcases tri x z with h | h | h
  · have := tot_mono hu hr2 (Rat.le_of_lt h)
    rw [← ha, ← hb] at this
    rw [cmp_lt h]
    unfold cmpQ
    split
    · decide
    · split
      · rename_i h3; grind
      · decide
  · subst h
    rw [cmp_eq]; simp
  · have := tot_mono hu hr2 (Rat.le_of_lt h)
    rw [← ha, ← hb] at this
    rw [cmp_gt h]
    have h4 := cmp_ge (Rat.not_lt.2 this)
    omega

theorem tot_zero {x : Rat} {gs : List (Rat × Rat)} (hu : Up gs) {c : Rat × Rat} (h0 : gs[0]? = some c) (h : x ≤ c.1) : tot x gs = 0 := by
  cases gs with
  | nil => cases h0
  | cons b r => simp at h0; subst h0; unfold tot; rw [if_pos h]

theorem top_min {x : Rat} {c : Rat × Rat} {r : List (Rat × Rat)} (h : x ≤ c.1) : topQ x (c :: r) = x := by show minQ x c.1 = x; unfold minQ; rw [if_neg (Rat.not_lt.2 h)]
theorem top_max {x : Rat} {c : Rat × Rat} {r : List (Rat × Rat)} (h : c.1 ≤ x) : topQ x (c :: r) = c.1 := by show minQ x c.1 = c.1; unfold minQ; split <;> grind

theorem rateL_none {z r0 : Rat} {gs : List (Rat × Rat)} (hu : Up gs) (h : ∀ b ∈ gs, z ≤ b.1) : rateL z r0 gs = r0 := by
  induction gs generalizing r0 with
  | nil => rfl
  | cons b r ih =>
    unfold rateL
    rw [if_neg (Rat.not_lt.2 (h b (List.mem_cons_self ..)))]
    exact ih (up_tail hu) fun c hc => h c (List.mem_cons_of_mem _ hc)
theorem up_all {b : Rat × Rat} {r : List (Rat × Rat)} (hu : Up (b :: r)) : ∀ c ∈ r, b.1 < c.1 := by
  induction r generalizing b with
  | nil => intro c hc; cases hc
  | cons d r ih =>
    intro c hc
    rcases List.mem_cons.1 hc with rfl | hc
    · exact hu.1
    · have h1 := ih hu.2 c hc; have h2 := hu.1; grind
theorem tot_low {x : Rat} {gs : List (Rat × Rat)} (h : ∀ b ∈ gs, x ≤ b.1) : tot x gs = 0 := by
  cases gs with
  | nil => rfl
  | cons b r => unfold tot; rw [if_pos (h b (List.mem_cons_self ..))]
theorem top_low {x : Rat} {gs : List (Rat × Rat)} (h : ∀ b ∈ gs, x ≤ b.1) : topQ x gs = x := by
  cases gs with
  | nil => rfl
  | cons c r => exact top_min (h c (List.mem_cons_self ..))

theorem straight_from {x z r0 : Rat} {b : Rat × Rat} {r : List (Rat × Rat)} (hu : Up (b :: r)) (hxz : x < z) (hb : b.1 < z) (h : ∀ c ∈ b :: r, c.1 ≤ x ∨ z ≤ c.1) :
    tot z (b :: r) = tot x (b :: r) + rateL z r0 (b :: r) * (z - x) := by
  induction r generalizing b r0 with
  | nil =>
    have hbx : b.1 ≤ x := by rcases h b (List.mem_cons_self ..) with h | h <;> grind
    show (if z ≤ b.1 then 0 else b.2 * (z - b.1) + 0) = (if x ≤ b.1 then 0 else b.2 * (x - b.1) + 0) + (if b.1 < z then b.2 else r0) * (z - x)
    rw [if_neg (Rat.not_le.2 hb), if_pos hb]
    split
    · have : x = b.1 := by grind
      subst this; grind
    · grind
  | cons c r ih =>
    have hbx : b.1 ≤ x := by rcases h b (List.mem_cons_self ..) with h | h <;> grind
    have hbc := hu.1
    have e1 : rateL z r0 (b :: c :: r) = rateL z b.2 (c :: r) := by show rateL z (if b.1 < z then b.2 else r0) (c :: r) = _; rw [if_pos hb]
    have e2 : tot z (b :: c :: r) = b.2 * (topQ z (c :: r) - b.1) + tot z (c :: r) := by rw [tot, if_neg (Rat.not_le.2 hb)]
    have e3 : tot x (b :: c :: r) = b.2 * (topQ x (c :: r) - b.1) + tot x (c :: r) := by
      by_cases hx : x ≤ b.1
      · have : x = b.1 := by grind
        rw [tot, if_pos hx, this, tot_low (fun d hd => Rat.le_of_lt (up_all hu d hd)), top_low (fun d hd => Rat.le_of_lt (up_all hu d hd))]
        grind
      · rw [tot, if_neg hx]
    rw [e1, e2, e3]
    rcases h c (List.mem_cons_of_mem _ (List.mem_cons_self ..)) with hc | hc
    · have hcz : c.1 < z := by grind
      rw [ih (r0 := b.2) hu.2 hcz fun d hd => h d (List.mem_cons_of_mem _ hd), top_max hc, top_max (Rat.le_of_lt hcz)]
      grind
    · have hall : ∀ d ∈ c :: r, z ≤ d.1 := fun d hd => by
        rcases List.mem_cons.1 hd with rfl | hd
        · exact hc
        · exact Rat.le_of_lt (by have := up_all hu.2 d hd; grind)
      have hall2 : ∀ d ∈ c :: r, x ≤ d.1 := fun d hd => by have := hall d hd; grind
      rw [rateL_none hu.2 hall, tot_low hall, tot_low hall2, top_low hall, top_low hall2]
      grind

/-- between two amounts with no From between a scale is a straight line -/
theorem straight_tot {gs : List (Rat × Rat)} {x z : Rat} (hu : Up gs) (hxz : x < z) (h : ∀ c ∈ gs, c.1 ≤ x ∨ z ≤ c.1) : tot z gs = tot x gs + rateL z 0 gs * (z - x) := by
  cases gs with
  | nil => show (0 : Rat) = 0 + 0 * (z - x); grind
  | cons b r =>
    by_cases hb : b.1 < z
    · exact straight_from hu hxz hb h
    · have hall : ∀ d ∈ b :: r, z ≤ d.1 := fun d hd => by
        rcases List.mem_cons.1 hd with rfl | hd
        · exact Rat.not_lt.1 hb
        · have := up_all hu d hd; grind
      have hall2 : ∀ d ∈ b :: r, x ≤ d.1 := fun d hd => by have := hall d hd; grind
      rw [rateL_none hu hall, tot_low hall, tot_low hall2]
      grind

theorem addR_is {p q v : Rat} (h : addR p q = .ok v) : v = p + q := by
  unfold addR goodR at h
  split at h
  · cases h; rfl
  · cases h
theorem bornR_is {b : Rat × Rat} {t s v : Rat} (h : bornR b t s = .ok v) : v = s + b.2 * (t - b.1) := by
  unfold bornR at h
  split at h
  · split at h
    · exact addR_is h
    · cases h
  · cases h
theorem behR_is {b : Rat × Rat} {y s v : Rat} (h : behR b y s = .ok v) : b.2 ≠ 0 ∧ v = b.1 + (y - s) / b.2 := by
  unfold behR at h
  split at h
  · split at h
    · cases h
    · rename_i q hq
      unfold divR at hq
      split at hq
      · cases hq
      · rename_i h0
        refine ⟨h0, ?_⟩
        rw [addR_is h]
        unfold goodR at hq
        split at hq
        · cases hq; rfl
        · cases hq
  · cases h
theorem div_mul_self' {a b : Rat} (h : b ≠ 0) : b * (a / b) = a := by rw [Rat.mul_comm]; exact Rat.div_mul_cancel h
theorem beh_facts {b : Rat × Rat} {y s x : Rat} (hb : 0 ≤ b.2) (hs : s < y) (h : behR b y s = .ok x) : 0 < b.2 ∧ b.2 * (x - b.1) = y - s ∧ b.1 < x := by
  obtain ⟨h0, rfl⟩ := behR_is h
  have h1 : 0 < b.2 := by grind
  have h2 : b.2 * ((y - s) / b.2) = y - s := div_mul_self' h0
  have h3 : 0 < (y - s) / b.2 := by
    rcases tri 0 ((y - s) / b.2) with h | h | h
    · exact h
    · rw [← h] at h2; grind
    · have h5 := Rat.mul_nonneg hb (show 0 ≤ - ((y - s) / b.2) by grind)
      grind
  refine ⟨h1, ?_, by grind⟩
  rw [show b.1 + (y - s) / b.2 - b.1 = (y - s) / b.2 by grind]; exact h2
theorem mul_lt_of {b u v : Rat} (hb : 0 < b) (h : u < v) : b * u < b * v := by
  have := Rat.mul_pos hb (show 0 < v - u by grind)
  grind
theorem mul_le_of {b u v : Rat} (hb : 0 ≤ b) (h : u ≤ v) : b * u ≤ b * v := by
  have := Rat.mul_nonneg hb (show 0 ≤ v - u by grind)
  grind
theorem le_of_mul_le {b u v : Rat} (hb : 0 < b) (h : b * u ≤ b * v) : u ≤ v := by
  rcases tri v u with h1 | h1 | h1
  · have := mul_lt_of hb h1; grind
  · grind
  · grind

theorem find_from {y s x : Rat} {b : Rat × Rat} {r : List (Rat × Rat)} (hu : Up (b :: r)) (hr : ∀ c ∈ b :: r, 0 ≤ c.2) (hs : s < y) (h : findL y s (b :: r) = .ok x) :
    b.1 < x ∧ tot x (b :: r) = y - s ∧ ∀ z, z < x → tot z (b :: r) < y - s := by
  induction r generalizing b s with
  | nil =>
    unfold findL at h
    split at h
    · obtain ⟨h1, h2, h3⟩ := beh_facts (hr b (List.mem_cons_self ..)) hs h
      refine ⟨h3, ?_, fun z hz => ?_⟩
      · show (if x ≤ b.1 then 0 else b.2 * (x - b.1) + 0) = _
        rw [if_neg (Rat.not_le.2 h3), h2, Rat.add_zero]
      · show (if z ≤ b.1 then 0 else b.2 * (z - b.1) + 0) < _
        split
        · grind
        · have := mul_lt_of h1 (show z - b.1 < x - b.1 by grind)
          grind
    · cases h
  | cons c r ih =>
    unfold findL at h
    have hbc := hu.1
    have hb2 := hr b (List.mem_cons_self ..)
    split at h
    · cases h
    · rename_i nx hnx
      have hn := bornR_is hnx
      split at h
      · rename_i hy
        obtain ⟨h1, h2, h3⟩ := beh_facts hb2 hs h
        have hxc : x ≤ c.1 := by
          have := le_of_mul_le h1 (show b.2 * (x - b.1) ≤ b.2 * (c.1 - b.1) by grind)
          grind
        have hz : ∀ z, z ≤ c.1 → tot z (c :: r) = 0 := fun z hz => by unfold tot; rw [if_pos hz]
        refine ⟨h3, ?_, fun z hzx => ?_⟩
        · rw [tot, if_neg (Rat.not_le.2 h3), top_min hxc, hz x hxc, h2, Rat.add_zero]
        · rw [tot]
          split
          · grind
          · have hzc : z ≤ c.1 := by grind
            rw [top_min hzc, hz z hzc]
            have := mul_lt_of h1 (show z - b.1 < x - b.1 by grind)
            grind
      · rename_i hy
        obtain ⟨h1, h2, h3⟩ := ih hu.2 (fun d hd => hr d (List.mem_cons_of_mem _ hd)) (Rat.not_le.1 hy) h
        have hbx : b.1 < x := by grind
        refine ⟨hbx, ?_, fun z hzx => ?_⟩
        · rw [tot, if_neg (Rat.not_le.2 hbx), top_max (Rat.le_of_lt h1), h2, hn]; grind
        · rw [tot]
          split
          · grind
          · rename_i hzb
            rcases (Rat.le_total : z ≤ c.1 ∨ c.1 ≤ z) with hzc | hzc
            · rw [top_min hzc, show tot z (c :: r) = 0 by unfold tot; rw [if_pos hzc]]
              have := mul_le_of hb2 (show z - b.1 ≤ c.1 - b.1 by grind)
              grind
            · rw [top_max hzc]
              have := h3 z hzx
              grind
end Go.Proofs.YtmankldedhgdiaaDoor
