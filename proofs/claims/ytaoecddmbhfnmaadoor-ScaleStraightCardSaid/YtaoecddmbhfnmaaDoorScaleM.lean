/- The plain laws of Find and of the parts. -/
import Derived.Test.YtaoecddmbhfnmaaDoorScaleL
namespace Go.Proofs.YtaoecddmbhfnmaaDoor
open Go.RowKit

theorem findG_good {gs : List (Rat × Rat)} {y x : Rat} (hg : ∀ b ∈ gs, GoodB b) (h : findG gs y = .ok x) : Good x := by
  unfold findG at h
  split at h
  · cases h
  · split at h
    · split at h
      · cases h
      · cases h; exact (hg _ (List.mem_cons_self ..)).1
    · have hL : ∀ (l : List (Rat × Rat)) (s : Rat), findL y s l = .ok x → Good x := by
        intro l
        induction l with
        | nil => intro s h; cases h
        | cons b r ih =>
          intro s h
          have hb : ∀ s, behR b y s = .ok x → Good x := fun s h => by
            unfold behR at h
            split at h
            · split at h
              · cases h
              · exact addR_good h
            · cases h
          cases r with
          | nil =>
            unfold findL at h
            split at h
            · exact hb _ h
            · cases h
          | cons c r =>
            unfold findL at h
            split at h
            · cases h
            · split at h
              · exact hb _ h
              · exact ih _ h
      exact hL gs 0 h

/-- what Find answers is the least amount at which the scale is y -/
theorem find_ok {s : List BI} {n d : Int} {x : Rat} (h : findI s n d = .ok x) : ∃ (gs : List (Rat × Rat)) (y : Rat), s = gs.map bR ∧ (∀ b ∈ gs, GoodB b) ∧ Good y ∧ n = y.num ∧ d = y.den ∧ Good x ∧ 0 < gs.length ∧ (y.num ≤ 0 → ∀ b, gs[0]? = some b → x = b.1) ∧
    (0 < y.num → (∀ a, atI s x.num x.den = .ok a → a = y) ∧ ∀ z a, z < x → atI s z.num z.den = .ok a → a < y) := by
  unfold findI at h
  split at h
  · cases h
  · rename_i hs
    obtain ⟨hs1, hv⟩ := askE_none hs
    obtain ⟨gs, rfl, hg, h1, h2, h3⟩ := scaleE_none hs1
    obtain ⟨y, hy, rfl, rfl⟩ := good_of_validB hv
    rw [fracB_bR, Rat.num_divInt_den] at h
    have hgx := findG_good hg h
    have hu := up_of h3
    have htot : ∀ (u a : Rat), atI (gs.map bR) u.num u.den = .ok a → a = tot u gs := fun u a ha => by
      obtain ⟨gs', x', e1, _, _, _, _, _, e2, e3, _, e4, _⟩ := atI_ok ha
      obtain rfl := map_bR_inj e1
      obtain rfl := rat_eq_of e2 e3
      exact e4
    refine ⟨gs, y, rfl, hg, hy, rfl, rfl, hgx, h2, fun hy0 b hb => ?_, fun hy0 => ?_⟩
    · unfold findG at h
      split at h
      · cases h
      · try rw [if_pos hy0] at h
        cases gs with
        | nil => cases hb
        | cons c r => simp at hb; subst hb; cases h; rfl
    · unfold findG at h
      split at h
      · cases h
      · rename_i hup
        try rw [if_neg (by omega)] at h
        have hr : ∀ c ∈ gs, 0 ≤ c.2 := fun c hc => by
          have h9 := List.all_eq_true.1 (show upR gs = true by simpa using hup) c hc
          exact Rat.num_nonneg.1 (of_decide_eq_true h9)
        cases gs with
        | nil => cases h
        | cons b r =>
          have hyp : (0 : Rat) < y := by
            rcases tri 0 y with h | h | h
            · exact h
            · rw [← h] at hy0; exact absurd hy0 (by decide)
            · have := Rat.num_nonneg.2 (show 0 ≤ -y by grind)
              rw [Rat.neg_num] at this
              omega
          obtain ⟨_, f2, f3⟩ := find_from hu hr hyp h
          refine ⟨fun a ha => ?_, fun z a hz ha => ?_⟩
          · rw [htot _ _ ha, f2]; grind
          · rw [htot _ _ ha]; have := f3 z hz; grind

theorem foldO_vals {l : List (Option GQ)} {a c : Rat} (h : foldO a l = .ok c) : noneO l = false ∧ foldR a (valsO l) = .ok c := by
  induction l generalizing a with
  | nil => exact ⟨rfl, h⟩
  | cons o r ih => cases o with
    | none => cases h
    | some p =>
      unfold foldO at h
      split at h
      · rename_i hg
        obtain ⟨h1, h2⟩ := ih h
        refine ⟨h1, ?_⟩
        show foldR a (p.1 :: valsO r) = _
        unfold foldR
        rw [if_pos hg]; exact h2
      · cases h

theorem vals_facts {x : Rat} {gs : List (Rat × Rat)} (h : noneO (bearsO x gs) = false) : (∀ i b, i < (valsO (bearsO x gs)).length → gs[i]? = some b → b.1 < x) ∧ (valsO (bearsO x gs)).length ≤ gs.length ∧ ∀ b, gs[(valsO (bearsO x gs)).length]? = some b → x ≤ b.1 := by
  induction gs with
  | nil => exact ⟨fun i b hi => by simp [bearsO, valsO] at hi, Nat.le_refl _, fun b hb => by simp at hb⟩
  | cons c r ih =>
    by_cases hx : x ≤ c.1
    · rw [bears_stop hx]
      exact ⟨fun i b hi => by simp [valsO] at hi, Nat.zero_le _, fun b hb => by simp [valsO] at hb; subst hb; exact hx⟩
    · cases hp : partO c (topQ x r) with
      | none => rw [bears_none hx hp] at h; cases h
      | some p =>
        rw [bears_some hx hp] at h ⊢
        obtain ⟨h1, h2, h3⟩ := ih h
        have e : (valsO (some p :: bearsO x r)).length = (valsO (bearsO x r)).length + 1 := rfl
        rw [e]
        refine ⟨fun i b hi hb => ?_, by simp only [List.length_cons]; omega, fun b hb => h3 b (by simpa using hb)⟩
        cases i with
        | zero => simp at hb; subst hb; exact Rat.not_le.1 hx
        | succ i => exact h1 i b (by omega) (by simpa using hb)

/-- what is known where At and Parts answer -/
theorem sums_law {s : List BI} {n d : Int} {a : Rat} (h : atI s n d = .ok a) : ∃ (gs : List (Rat × Rat)) (x : Rat) (l : List Rat), s = gs.map bR ∧ (∀ b ∈ gs, GoodB b) ∧ Good x ∧ n = x.num ∧ d = x.den ∧ Good a ∧ partsI s n d = .ok l ∧ (∀ q ∈ l, Good q) ∧ foldR 0 l = .ok a ∧ l.length ≤ gs.length ∧ gs.length ≤ 32 ∧
    (∀ (i : Nat) (b : Rat × Rat), i < l.length → gs[i]? = some b → b.1 < x) ∧ ∀ b, gs[l.length]? = some b → x ≤ b.1 := by
  have hask : askE s n d = none := by
    unfold atI at h
    split at h
    · cases h
    · assumption
  obtain ⟨gs, x, rfl, hg, _, _, h32, hx, rfl, rfl, ha, _, hf⟩ := atI_ok h
  obtain ⟨hn, hr⟩ := foldO_vals hf
  obtain ⟨f1, f2, f3⟩ := vals_facts hn
  refine ⟨gs, x, valsO (bearsO x gs), rfl, hg, hx, rfl, rfl, ha, ?_, fun q hq => ?_, hr, f2, h32, f1, f3⟩
  · rw [partsI_good hask, if_neg (by rw [hn]; decide)]
  · unfold valsO at hq
    obtain ⟨o, _, ho⟩ := List.mem_filterMap.1 hq
    cases o with
    | none => cases ho
    | some p => simp at ho; subst ho; exact p.2

end Go.Proofs.YtaoecddmbhfnmaaDoor
