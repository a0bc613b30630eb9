/- Grow and Part: what they compute. -/
import Derived.Test.YtcbglkkmblmbnaaDoorIndexA
namespace Go.Proofs.YtcbglkkmblmbnaaDoor
open Go.RowKit

theorem half_five {t : Rat} {f : Int} (h : FL t f) : (2 * ((kQ 5 t f : Rat) - t) = 1 ∨ 2 * (t - (kQ 5 t f : Rat)) = 1) → (0 ≤ t → t < (kQ 5 t f : Rat)) ∧ (t < 0 → (kQ 5 t f : Rat) < t) := by
  obtain ⟨a1, a2⟩ := h
  have e1 : ((f + 1 : Int) : Rat) = (f : Rat) + 1 := by rw [Rat.intCast_add]; rfl
  unfold kQ UpQ
  simp
  split <;> (try split) <;> (try rw [e1]) <;> grind

theorem half_six {t : Rat} {f : Int} (h : FL t f) : (2 * ((kQ 6 t f : Rat) - t) = 1 ∨ 2 * (t - (kQ 6 t f : Rat)) = 1) → kQ 6 t f % 2 = 0 := by
  obtain ⟨a1, a2⟩ := h
  have e1 : ((f + 1 : Int) : Rat) = (f : Rat) + 1 := by rw [Rat.intCast_add]; rfl
  have e2 : f % 2 = 0 ∨ f % 2 = 1 := by omega
  have e3 : f % 2 = 1 → (f + 1) % 2 = 0 := by omega
  unfold kQ UpQ
  simp
  split <;> (try split) <;> (try rw [e1]) <;> grind

/-- the unit as a fraction -/
theorem unit_cast {u : Rat} {unit : Int} (h1 : unit = u.num) (h2 : (1 : Int) = u.den) : u = (unit : Rat) := by
  apply fv_inj
  · rw [Rat.num_intCast, h1]
  · rw [Rat.den_intCast, ← h2]; rfl

/-- what Grow answers without an error -/
theorem grow_ok {a fn fd unit mode n : Int} (h : growI a fn fd unit mode = .ok n) : ∃ f : Rat, Good f ∧ fn = f.num ∧ fd = f.den ∧ 1 ≤ mode ∧ mode ≤ 6 ∧ 1 ≤ unit ∧ unit ≤ 1000000000000 ∧ -1000000000000 ≤ a ∧ a ≤ 1000000000000 ∧ Good ((a : Rat) * f) ∧
    (n : Rat) = roundQ mode (unit : Rat) ((a : Rat) * f) ∧ Good (n : Rat) := by
  unfold growI at h
  split at h
  · cases h
  rename_i hv
  split at h
  · cases h
  rename_i hm
  split at h
  · cases h
  rename_i ha
  obtain ⟨f, hf, rfl, rfl⟩ := good_of_validB (by simpa using hv)
  rw [Rat.num_divInt_den] at h
  unfold goodR at h
  split at h
  · cases h
  rename_i x hx
  split at h
  · cases h
  rename_i y hy
  cases h
  split at hx
  · rename_i hg
    cases hx
    obtain ⟨q, _, e1, e2, _, gy, hc⟩ := round_ok hy
    obtain rfl := fv_inj e1 e2
    rcases hc with ⟨m0, _⟩ | ⟨m1, m2, u, _, h0, e3, e4, rfl⟩
    · omega
    · obtain rfl := unit_cast e3 e4
      have hy' : roundQ mode (unit : Rat) ((a : Rat) * f) = ((kQ mode ((a : Rat) * f / (unit : Rat)) ((a : Rat) * f / (unit : Rat)).floor * unit : Int) : Rat) := by
        unfold roundQ; rw [Rat.intCast_mul]
      rw [hy'] at gy ⊢
      rw [Rat.num_intCast]
      exact ⟨f, hf, rfl, rfl, by omega, by omega, by omega, by omega, by omega, by omega, hg, hy'.symm, gy⟩
  · cases hx

theorem grow_mk {a unit mode n : Int} {f : Rat} (hf : Good f) (m : 1 ≤ mode ∧ mode ≤ 6 ∧ 1 ≤ unit ∧ unit ≤ 1000000000000) (ha : -1000000000000 ≤ a ∧ a ≤ 1000000000000) (hg : Good ((a : Rat) * f)) (hn : (n : Rat) = roundQ mode (unit : Rat) ((a : Rat) * f)) (gn : Good (n : Rat)) :
    growI a f.num f.den unit mode = .ok n := by
  rw [growI_good hf m ha, if_pos hg]
  have hu := good_int (k := unit) (by omega) (by omega)
  have h := roundI_good (mode := mode) hg hu (by rw [Rat.num_intCast]; omega) m.1 m.2.1
  rw [Rat.num_intCast, Rat.den_intCast] at h
  have h' : roundI ((a : Rat) * f).num ((a : Rat) * f).den mode unit 1 = goodR (roundQ mode (unit : Rat) ((a : Rat) * f)) := h
  rw [h', ← hn]
  unfold goodR
  rw [if_pos gn]
  show Except.ok _ = _
  rw [Rat.num_intCast]

/-- of the amount n and the exact one: how far it is away, as whole numbers -/
def NearI (n N D U mode : Int) : Prop :=
  (∃ k, n = k * U ∧ (mode = 6 → (2 * (n * D - N) = U * D ∨ 2 * (N - n * D) = U * D) → k % 2 = 0)) ∧ n * D - N < U * D ∧ N - n * D < U * D ∧ (mode = 3 → n * D - N ≤ 0) ∧ (mode = 4 → 0 ≤ n * D - N) ∧
  (mode = 1 → (0 ≤ N → n * D - N ≤ 0 ∧ 0 ≤ n) ∧ (N < 0 → 0 ≤ n * D - N ∧ n ≤ 0)) ∧ (mode = 2 → (0 ≤ N → 0 ≤ n * D - N) ∧ (N < 0 → n * D - N ≤ 0)) ∧
  (5 ≤ mode → 2 * (n * D - N) ≤ U * D ∧ 2 * (N - n * D) ≤ U * D) ∧ (mode = 5 → (2 * (n * D - N) = U * D ∨ 2 * (N - n * D) = U * D) → (0 ≤ N → 0 < n * D - N) ∧ (N < 0 → n * D - N < 0))

theorem rat_le {x y : Rat} {a b D : Int} (hD : 0 < D) (ha : (a : Rat) = x * (D : Rat)) (hb : (b : Rat) = y * (D : Rat)) : (x ≤ y ↔ a ≤ b) := by
  have hp := intCast_pos hD
  rw [← Rat.intCast_le_intCast, ha, hb]
  constructor
  · intro h; exact Rat.mul_le_mul_of_nonneg_right h (by grind)
  · intro h
    rcases Rat.not_lt.1 (fun hl : y < x => absurd (Rat.mul_lt_mul_of_pos_right hl hp) (by grind)) with h
    exact h

theorem rat_lt {x y : Rat} {a b D : Int} (hD : 0 < D) (ha : (a : Rat) = x * (D : Rat)) (hb : (b : Rat) = y * (D : Rat)) : (x < y ↔ a < b) := by
  have h := rat_le hD hb ha
  rw [← Rat.not_le, h]; omega

theorem rat_eq {x y : Rat} {a b D : Int} (hD : 0 < D) (ha : (a : Rat) = x * (D : Rat)) (hb : (b : Rat) = y * (D : Rat)) : (x = y ↔ a = b) := by
  have h1 := rat_le hD hb ha
  have h2 := rat_le hD ha hb
  constructor
  · intro h; have h3 := h2.1 (by grind); have h4 := h1.1 (by grind); omega
  · intro h; have h3 := h2.2 (by omega); have h4 := h1.2 (by omega); grind

theorem near_ints {n U mode : Int} {x : Rat} (hU : 1 ≤ U) (m1 : 1 ≤ mode) (m2 : mode ≤ 6) (h : (n : Rat) = roundQ mode (U : Rat) x) : NearI n x.num x.den U mode := by
  have hu : 0 < ((U : Rat)).num := by rw [Rat.num_intCast]; omega
  have hp := num_pos hu
  have hD : 0 < (x.den : Int) := by have := x.den_pos; omega
  have eN : ((x.num : Int) : Rat) = x * ((x.den : Int) : Rat) := (mul_den x).symm
  have en : ((n * (x.den : Int) : Int) : Rat) = (n : Rat) * ((x.den : Int) : Rat) := Rat.intCast_mul ..
  have eU : ((U * (x.den : Int) : Int) : Rat) = (U : Rat) * ((x.den : Int) : Rat) := Rat.intCast_mul ..
  have e0 : ((0 : Int) : Rat) = (0 : Rat) * ((x.den : Int) : Rat) := by rw [Rat.zero_mul]; rfl
  have eX : ((n * (x.den : Int) - x.num : Int) : Rat) = ((n : Rat) - x) * ((x.den : Int) : Rat) := by rw [Rat.intCast_sub, en, eN]; grind
  have eY : ((x.num - n * (x.den : Int) : Int) : Rat) = (x - (n : Rat)) * ((x.den : Int) : Rat) := by rw [Rat.intCast_sub, en, eN]; grind
  have e2X : ((2 * (n * (x.den : Int) - x.num) : Int) : Rat) = (2 * ((n : Rat) - x)) * ((x.den : Int) : Rat) := by rw [Rat.intCast_mul, eX]; have : ((2 : Int) : Rat) = 2 := rfl; rw [this]; grind
  have e2Y : ((2 * (x.num - n * (x.den : Int)) : Int) : Rat) = (2 * (x - (n : Rat))) * ((x.den : Int) : Rat) := by rw [Rat.intCast_mul, eY]; have : ((2 : Int) : Rat) = 2 := rfl; rw [this]; grind
  obtain ⟨s1, s2, s3, s4, s5, s6, s7⟩ := round_side (q := x) hu m1 m2
  rw [← h] at s1 s2 s3 s4 s5 s6 s7
  have hNx : 0 ≤ x.num ↔ 0 ≤ x := Rat.num_nonneg
  have hNx' : x.num < 0 ↔ x < 0 := by rw [← Rat.not_le, ← hNx]; omega
  have L0 : 0 ≤ n * (x.den : Int) - x.num ↔ x ≤ n := by rw [← rat_le hD e0 eX]; grind
  have L1 : n * (x.den : Int) - x.num ≤ 0 ↔ (n : Rat) ≤ x := by rw [← rat_le hD eX e0]; grind
  have L2 : 0 < n * (x.den : Int) - x.num ↔ x < n := by rw [← rat_lt hD e0 eX]; grind
  have L3 : n * (x.den : Int) - x.num < 0 ↔ (n : Rat) < x := by rw [← rat_lt hD eX e0]; grind
  have L4 : 2 * (n * (x.den : Int) - x.num) = U * (x.den : Int) ↔ 2 * ((n : Rat) - x) = (U : Rat) := (rat_eq hD e2X eU).symm
  have L5 : 2 * (x.num - n * (x.den : Int)) = U * (x.den : Int) ↔ 2 * (x - (n : Rat)) = (U : Rat) := (rat_eq hD e2Y eU).symm
  have N0 : (0 : Rat) ≤ (n : Rat) ↔ 0 ≤ n := by have := Rat.intCast_le_intCast (a := 0) (b := n); exact this
  have N1 : (n : Rat) ≤ (0 : Rat) ↔ n ≤ 0 := by have := Rat.intCast_le_intCast (a := n) (b := 0); exact this
  have hU0 : (U : Rat) ≠ 0 := fun e => by rw [e] at hp; exact absurd hp (by decide)
  have ht := Rat.div_mul_cancel (a := x) hU0
  have hfl := floor_fl (x / (U : Rat))
  have hk : n = kQ mode (x / (U : Rat)) (x / (U : Rat)).floor * U := by
    have h' := h
    unfold roundQ at h'
    rw [← Rat.intCast_mul] at h'
    exact Rat.intCast_inj.1 h'
  have h5 := half_five hfl
  have h6 := half_six hfl
  have hq := h
  unfold roundQ at hq
  have tneg : x / (U : Rat) < 0 ↔ x < 0 := by rw [quot_neg hu, hNx']
  have one : ∀ k : Rat, (n : Rat) = k * (U : Rat) → (2 * ((n : Rat) - x) = (U : Rat) → 2 * (k - x / (U : Rat)) = 1) ∧ (2 * (x - (n : Rat)) = (U : Rat) → 2 * (x / (U : Rat) - k) = 1) ∧ (x / (U : Rat) < k → x < n) ∧ (k < x / (U : Rat) → (n : Rat) < x) := by
    intro k hk
    have E := fun (v : Rat) (hv : v * (U : Rat) = 0) => (Rat.mul_eq_zero.1 hv).resolve_right hU0
    refine ⟨fun e => ?_, fun e => ?_, fun e => ?_, fun e => ?_⟩
    · have := E (2 * (k - x / (U : Rat)) - 1) (by grind); grind
    · have := E (2 * (x / (U : Rat) - k) - 1) (by grind); grind
    · have := Rat.mul_lt_mul_of_pos_right e hp; grind
    · have := Rat.mul_lt_mul_of_pos_right e hp; grind
  obtain ⟨o1, o2, o3, o4⟩ := one _ hq
  refine ⟨⟨_, hk, fun hm hh => ?_⟩, (rat_lt hD eX eU).1 s1, (rat_lt hD eY eU).1 s2, fun hm => L1.2 (s3 hm), fun hm => L0.2 (s4 hm), fun hm => ⟨fun hn => ?_, fun hn => ?_⟩, fun hm => ⟨fun hn => ?_, fun hn => ?_⟩, fun hm => ⟨(rat_le hD e2X eU).1 (s7 hm).1, (rat_le hD e2Y eU).1 (s7 hm).2⟩, fun hm hh => ⟨fun hn => ?_, fun hn => ?_⟩⟩
  · subst hm
    apply h6
    rcases hh with hh | hh
    · exact .inl (o1 (L4.1 hh))
    · exact .inr (o2 (L5.1 hh))
  · obtain ⟨p, q⟩ := (s5 hm).1 (hNx.1 hn)
    exact ⟨L1.2 p, N0.1 q⟩
  · obtain ⟨p, q⟩ := (s5 hm).2 (hNx'.1 hn)
    exact ⟨L0.2 p, N1.1 q⟩
  · exact L0.2 ((s6 hm).1 (hNx.1 hn))
  · exact L1.2 ((s6 hm).2 (hNx'.1 hn))
  · subst hm
    apply L2.2
    apply o3
    refine (h5 ?_).1 ?_
    · rcases hh with hh | hh
      · exact .inl (o1 (L4.1 hh))
      · exact .inr (o2 (L5.1 hh))
    · rw [← Rat.not_lt, tneg, Rat.not_lt]; exact hNx.1 hn
  · subst hm
    apply L3.2
    apply o4
    refine (h5 ?_).2 ?_
    · rcases hh with hh | hh
      · exact .inl (o1 (L4.1 hh))
      · exact .inr (o2 (L5.1 hh))
    · rw [tneg]; exact hNx'.1 hn

/-- Grow rises with the number, f not below 0 -/
theorem grow_le {a b fn fd unit mode n m : Int} (h1 : growI a fn fd unit mode = .ok n) (h2 : growI b fn fd unit mode = .ok m) (hf : 0 ≤ fn) (h : a ≤ b) : n ≤ m := by
  obtain ⟨f, hf', rfl, rfl, m1, m2, u1, u2, _, _, _, e1, _⟩ := grow_ok h1
  obtain ⟨f', _, e3, e4, _, _, _, _, _, _, _, e2, _⟩ := grow_ok h2
  obtain rfl := fv_inj e3 e4
  have h0 : (0 : Rat) ≤ f := Rat.num_nonneg.1 hf
  have hab : (a : Rat) * f ≤ (b : Rat) * f := Rat.mul_le_mul_of_nonneg_right (Rat.intCast_le_intCast.2 h) h0
  have := roundQ_mono (mode := mode) (u := (unit : Rat)) (by rw [Rat.num_intCast]; omega) hab
  rw [← e1, ← e2] at this
  exact Rat.intCast_le_intCast.1 this

theorem int_neg (a : Int) : ((-a : Int) : Rat) = -(a : Rat) := Rat.intCast_neg a

/-- Grow of the negative -/
theorem grow_neg {a fn fd unit mode n : Int} (h : growI a fn fd unit mode = .ok n) : growI (-a) fn fd unit (turnM mode) = .ok (-n) := by
  obtain ⟨f, hf, rfl, rfl, m1, m2, u1, u2, a1, a2, hg, e1, hn⟩ := grow_ok h
  have hx : ((-a : Int) : Rat) * f = -((a : Rat) * f) := by rw [int_neg]; grind
  refine grow_mk hf ⟨?_, ?_, u1, u2⟩ ⟨by omega, by omega⟩ ?_ ?_ ?_
  · unfold turnM; split <;> (try split) <;> omega
  · unfold turnM; split <;> (try split) <;> omega
  · rw [hx]; exact good_neg hg
  · rw [hx, roundQ_neg m1 m2, ← e1, int_neg]
  · rw [int_neg]; exact good_neg hn

/-- a multiple of the unit stays, f 1 -/
theorem grow_one {a unit mode : Int} (m1 : 1 ≤ mode) (m2 : mode ≤ 6) (u1 : 1 ≤ unit) (u2 : unit ≤ 1000000) (a1 : -1000000 < a) (a2 : a < 1000000) : growI (a * unit) 1 1 unit mode = .ok (a * unit) := by
  have hb : -1000000000000 ≤ a * unit ∧ a * unit ≤ 1000000000000 := by
    have h := Nat.mul_le_mul (show a.natAbs ≤ 1000000 by omega) (show unit.natAbs ≤ 1000000 by omega)
    rw [← Int.natAbs_mul] at h
    omega
  have e : (((a * unit : Int)) : Rat) * (1 : Rat) = ((a * unit : Int) : Rat) := Rat.mul_one _
  have hg := good_int hb.1 hb.2
  have := grow_mk (a := a * unit) (n := a * unit) (f := 1) (by decide) ⟨m1, m2, u1, by omega⟩ hb (by rw [e]; exact hg) ?_ hg
  · exact this
  · rw [e, Rat.intCast_mul, roundQ_again (by rw [Rat.num_intCast]; omega)]

end Go.Proofs.YtcbglkkmblmbnaaDoor
